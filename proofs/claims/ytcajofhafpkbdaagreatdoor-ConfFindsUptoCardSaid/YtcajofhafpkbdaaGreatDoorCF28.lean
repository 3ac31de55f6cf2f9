/- The texts D14, LibsI, D12, G16, G17, U10, U11, one behind the other. -/
import Derived.Test.YtcajofhafpkbdaaGreatDoorCF12
import Derived.Test.YtcajofhafpkbdaaGreatDoorCF13
import Derived.Test.YtcajofhafpkbdaaGreatDoorCF22
import Derived.Test.YtcajofhafpkbdaaGreatDoorCF25
import Derived.Test.YtcajofhafpkbdaaGreatDoorCF27
namespace Go.Proofs.YtcajofhafpkbdaaGreatDoor.Flow
open Go

def numA (a : Nat) (l : List UInt8) : Nat := l.foldl (fun n c => 10 * n + (c.toNat - 48)) a
def numL (l : List UInt8) : Nat := numA 0 l

theorem zhL {c : UInt8} (h : isD c = true) : 48 ≤ c.toNat ∧ c.toNat ≤ 57 := by
  have := zcm.1 h
  omega

theorem zdR {k : Nat} (h : ¬ k < 10) : Lib.decDigits k = Lib.decDigits (k / 10) ++ [UInt8.ofNat (48 + k % 10)] := by rw [Lib.decDigits, dif_neg h]
theorem zbT {k : Nat} (h : k < 10) : Lib.decDigits k = [UInt8.ofNat (48 + k)] := by rw [Lib.decDigits, dif_pos h]

theorem zeK {n : Nat} (h : n < 10) : isD (UInt8.ofNat (48 + n)) = true ∧ (UInt8.ofNat (48 + n)).toNat = 48 + n := by
  have : (UInt8.ofNat (48 + n)).toNat = 48 + n := by simp; omega
  exact ⟨zcm.2 (by omega), this⟩

theorem zim (k : Nat) : ∀ c ∈ Lib.decDigits k, isD c = true := by
  induction k using Nat.strongRecOn with
  | ind k ih =>
    by_cases h : k < 10
    · rw [zbT h]
      intro c hc
      rw [List.mem_singleton.1 hc]
      exact (zeK h).1
    · rw [zdR h]
      intro c hc
      rcases List.mem_append.1 hc with hc | hc
      · exact ih (k / 10) (by omega) c hc
      · rw [List.mem_singleton.1 hc]
        exact (zeK (by omega)).1

theorem zgJ (k : Nat) (h : ¬ k = 0) : ∃ c l, Lib.decDigits k = c :: l ∧ ¬ c = 48 := by
  induction k using Nat.strongRecOn with
  | ind k ih =>
    by_cases h2 : k < 10
    · refine ⟨_, [], zbT h2, fun h3 => ?_⟩
      have := congrArg UInt8.toNat h3
      rw [(zeK h2).2] at this
      have : (48 : UInt8).toNat = 48 := rfl
      omega
    · obtain ⟨c, l, h3, h4⟩ := ih (k / 10) (by omega) (by omega)
      exact ⟨c, l ++ [UInt8.ofNat (48 + k % 10)], by rw [zdR h2, h3]; rfl, h4⟩

theorem zoR (k n : Nat) (h : k < 10 ^ n) (hn : 1 ≤ n) : (Lib.decDigits k).length ≤ n := by
  induction n generalizing k with
  | zero => omega
  | succ n ih =>
    by_cases h2 : k < 10
    · rw [zbT h2]
      simp
    · rw [zdR h2, List.length_append, List.length_singleton]
      rw [Nat.pow_succ] at h
      by_cases hz : n = 0
      · subst hz
        omega
      · have := ih (k / 10) (by omega) (by omega)
        omega

def dig0 (k : Nat) : List UInt8 := if k = 0 then [] else Lib.decDigits k
theorem zpu {k : Nat} (h : ¬ k = 0) : dig0 k = dig0 (k / 10) ++ [UInt8.ofNat (48 + k % 10)] := by
  unfold dig0
  rw [if_neg h]
  by_cases h2 : k < 10
  · rw [zbT h2, if_pos (by omega), show k % 10 = k by omega]
    rfl
  · rw [zdR h2, if_neg (by omega)]

theorem zlH (neg : Bool) (e : Int) : normF neg [] e = ((false, [], 0), 0) := rfl
theorem zeJ (neg : Bool) (e : Int) : normF neg [48] e = ((false, [], 0), 0) := by
  unfold normF
  rw [if_pos (by decide)]
theorem zpy (neg : Bool) (k : Nat) (e : Int) : normF neg (dig0 k) e = normF neg (Lib.decDigits k) e := by
  unfold dig0
  split
  · rename_i h
    subst h
    rw [zlH, show Lib.decDigits 0 = [48] from zbT (by omega), zeJ]
  · rfl


theorem zll {s : List UInt8} (h : lastOk s) : tR s = s := by
  rcases zeZ s with rfl | ⟨r, c, rfl⟩
  · rfl
  · exact zkF r c (h c r rfl)

theorem tR_zs (s : List UInt8) (n : Nat) : tR (s ++ zs n) = tR s := by
  induction n with
  | zero => simp
  | succ n ih =>
    unfold zs at ih ⊢
    rw [List.replicate_succ', ← List.append_assoc, zjU, ih]

theorem tL_zs (s : List UInt8) (n : Nat) : tL (zs n ++ s) = tL s := by
  induction n with
  | zero => simp
  | succ n ih =>
    unfold zs at ih ⊢
    rw [List.replicate_succ, List.cons_append]
    unfold tL Lib.trimLeftB at ih ⊢
    rw [List.dropWhile_cons]
    simp

theorem tL_ne {c : UInt8} {l : List UInt8} (h : ¬ c = 48) : tL (c :: l) = c :: l := by
  unfold tL Lib.trimLeftB
  rw [List.dropWhile_cons]
  simp [h]

def ofF (n e : Int) : Bool × List UInt8 × Int := if e < -2000 ∨ 2000 < e then (false, [], 0) else (normF (decide (n < 0)) (Lib.decDigits n.natAbs) e).1

theorem zmX (e : Int) : ofF 0 e = (false, [], 0) := by
  unfold ofF
  split
  · rfl
  · show (normF false (Lib.decDigits 0) e).1 = _
    rw [show Lib.decDigits 0 = [48] from zbT (by omega), zeJ]

def intF (neg : Bool) (s : List UInt8) (e : Int) : Int × Bool :=
  if ¬ RightP neg s e ∨ e < 0 ∨ 19 < s.length + e then (0, false)
  else if 4611686018427387904 < numL (s ++ zs e.toNat) then (0, false)
  else if neg = true then (-(numL (s ++ zs e.toNat) : Int), true) else ((numL (s ++ zs e.toNat) : Int), true)

theorem zns {S : Cells} {w : World} (hg : GOk S w) : Lib.TabIs Tryz.prog w "internal/strconv.uint64pow10" .u64 Lib.pow10Tab := by
  have hn : Tryz.prog.globalNamed "internal/strconv.uint64pow10" = some 3 := by kernel_rfl
  have h1 := hg.rel 3
  have h2 := (hg.len 3 20 rfl).2
  have h3 : ∀ j, j < 20 → w.cell? ⟨3, j, none⟩ = some (.int .u64 (powZ j)) := by
    cases h1 with
    | rn _ _ _ _ _ _ h => exact fun j hj => (h j hj).2
  have h0 := h3 0 (by decide)
  unfold Lib.TabIs
  simp only [World.var?, hn, Option.bind_some]
  cases hh : w.heap[3]? with
  | none => simp [World.cell?, hh] at h0
  | some o =>
    cases o with
    | cells cs t fr =>
      simp only [Option.some.injEq]
      have h4 : ∀ j, j < 20 → cs[j]? = some (.int .u64 (powZ j)) := fun j hj => by
        have := h3 j hj
        simpa [World.cell?, hh] using this
      have h5 : cs[20]? = none := by simpa [World.cell?, hh] using h2
      apply Array.ext_getElem?
      intro j
      by_cases hj : j < 20
      · rw [h4 j hj]
        simp [Lib.pow10Tab, hj, powZ]
      · have : cs.size ≤ 20 := by simpa using h5
        rw [Array.getElem?_eq_none (by omega), Array.getElem?_eq_none (by simp [Lib.pow10Tab]; omega)]
    | _ => simp [World.cell?, hh] at h0

theorem ziO (n : Int) (h0 : -9223372036854775808 ≤ n) (h1 : n ≤ 9223372036854775807) : Ctr Tryz.prog 94 [.i .i64 n] (.s (Lib.itoa n)) := by
  intro w S vs hv hg hn hr
  have h := hr 0 (by simp)
  rw [zpO hn]
  generalize vs.getD 0 undef = v0 at *
  cases h
  refine (Tryz.strconv_Itoa n h0 h1 w (zns hg)).mono ?_
  rintro e w' ⟨rfl, k, os, rfl⟩
  exact ⟨_, S, rfl, .s _ _, zfL hv hg (zio w k os)⟩

theorem zmV (n : Int) : (n < 0 → Lib.itoa n = 45 :: Lib.decDigits n.natAbs) ∧ (¬ n < 0 → Lib.itoa n = Lib.decDigits n.natAbs) := by
  unfold Lib.itoa
  constructor
  · intro h
    rw [if_pos h]
  · intro h
    rw [if_neg h, show n.toNat = n.natAbs by omega]

theorem zpX (n e : Int) (h0 : -9223372036854775808 ≤ n) (h1 : n ≤ 9223372036854775807) : Ctr Tryz.prog 64 [.i .i64 n, .i .i64 e] (dcV (ofF n e)) := by
  have c1 := ziO n h0 h1
  obtain ⟨i1, i2⟩ := zmV n
  have hlD := zoR n.natAbs 19 (by omega) (by omega)
  have c2 := fun h : -2000 ≤ e ∧ e ≤ 2000 => ziX (decide (n < 0)) (Lib.decDigits n.natAbs) e (by omega) (by omega) (by omega)
  generalize hR : ofF n e = R
  unfold ofF at hR
  replace hR := fun _ : Unit => hR.symm
  generalize normF (decide (n < 0)) (Lib.decDigits n.natAbs) e = N at *
  by_cases hn : n < 0
  · rw [i1 hn] at c1
    clear i1 i2
    generalize Lib.decDigits n.natAbs = D at *
    have hD : List.drop (Int.toNat 1) (List.take (((45 :: D).length : Nat) : Int).toNat (45 :: D)) = D := by
      rw [Int.toNat_natCast, List.take_length]
      rfl
    rw [← hD] at c2
    clear hD
    refine zbe Tryz.func64 rfl Tryz.ntmps64 Tryz.results64 rfl rfl fun X hL hX => ?_
    repeat' (first |with_reducible (first |refine zaK ?_|refine zaj ?_|refine zaL ?_|refine zaB ?_|refine zaO ?_|refine zaD ?_|refine zaC ?_|refine zar ?_|refine zaq ?_|refine zaI ?_|refine zaE ?_|refine zas ?_|refine zaH ?_)|refine zaw rfl rfl True.intro ?_|refine zau rfl rfl rfl ?_|refine zao rfl rfl rfl ?_|refine zag rfl rfl rfl rfl True.intro ?_|refine zaF rfl ?_|refine zat rfl ?_|((first |refine zal rfl ?_ ?_|refine zan rfl ?_ ?_|refine zak rfl ?_ ?_|refine zam rfl ?_ ?_|refine zap rfl ?_ ?_|refine zaA rfl ?_ ?_|refine zad rfl rfl ?_ ?_|refine zae rfl rfl ?_ ?_|refine zaf rfl rfl ?_ ?_|refine zac rfl rfl ?_ ?_|refine zab rfl rfl ?_ ?_)<;>intro<;>try (first |(rename_i hz;first |exact tf_ hz|exact ft_ hz)|(exfalso;omega)))|((first |refine zaw rfl rfl ?_ ?_|refine zag rfl rfl rfl rfl ?_ ?_|refine zaM rfl rfl ?_ ?_|refine zaJ rfl ?_ ?_|refine zaG rfl rfl rfl rfl ?_ ?_);focus (first |(simp only [List.length_cons];omega)|omega|exact le_ rfl|((repeat first |rw [zay]|rw [wi6_]|rw [wi3_]|rw [zai]|rw [zah]);(repeat' refine And.intro ?_ ?_)<;>omega)|((repeat' refine And.intro ?_ ?_)<;>first |omega|rfl|exact Nat.le_refl _|exact le_ rfl|exact zaa _)|(simp_all;done)|(simp_all;omega)))|refine zaP rfl ?_|refine zaz rfl ?_|with_reducible refine ⟨by kernel_rfl, ?_⟩|refine zaQ rfl ?_|refine zaR (f := 94) rfl rfl Tryz.call94 rfl c1 ?_|refine zaR (f := 95) rfl rfl Tryz.call95 rfl (c2 (by omega)) ?_|((with_reducible refine zaN ?_);(fail_if_success (refine zax true rfl rfl rfl ?_));(fail_if_success (refine zax false rfl rfl rfl ?_));refine zav rfl rfl (fun _ => ?_) (fun _ => ?_)))
    all_goals
      rw [hR ()]
      first
        | rw [if_pos (by omega)]; done
        | (rw [if_pos (by omega)]; rfl)
        | rw [if_neg (by omega)]; done
        | (rw [if_neg (by omega)]; rfl)
  · rw [i2 hn] at c1
    clear i1 i2
    generalize Lib.decDigits n.natAbs = D at *
    refine zbe Tryz.func64 rfl Tryz.ntmps64 Tryz.results64 rfl rfl fun X hL hX => ?_
    repeat' (first |with_reducible (first |refine zaK ?_|refine zaj ?_|refine zaL ?_|refine zaB ?_|refine zaO ?_|refine zaD ?_|refine zaC ?_|refine zar ?_|refine zaq ?_|refine zaI ?_|refine zaE ?_|refine zas ?_|refine zaH ?_)|refine zaw rfl rfl True.intro ?_|refine zau rfl rfl rfl ?_|refine zao rfl rfl rfl ?_|refine zag rfl rfl rfl rfl True.intro ?_|refine zaF rfl ?_|refine zat rfl ?_|((first |refine zal rfl ?_ ?_|refine zan rfl ?_ ?_|refine zak rfl ?_ ?_|refine zam rfl ?_ ?_|refine zap rfl ?_ ?_|refine zaA rfl ?_ ?_|refine zad rfl rfl ?_ ?_|refine zae rfl rfl ?_ ?_|refine zaf rfl rfl ?_ ?_|refine zac rfl rfl ?_ ?_|refine zab rfl rfl ?_ ?_)<;>intro<;>try (first |(rename_i hz;first |exact tf_ hz|exact ft_ hz)|(exfalso;omega)))|((first |refine zaw rfl rfl ?_ ?_|refine zag rfl rfl rfl rfl ?_ ?_|refine zaM rfl rfl ?_ ?_|refine zaJ rfl ?_ ?_|refine zaG rfl rfl rfl rfl ?_ ?_);focus (first |omega|exact le_ rfl|((repeat first |rw [zay]|rw [wi6_]|rw [wi3_]|rw [zai]|rw [zah]);(repeat' refine And.intro ?_ ?_)<;>omega)|((repeat' refine And.intro ?_ ?_)<;>first |omega|rfl|exact Nat.le_refl _|exact le_ rfl|exact zaa _)|(simp_all;done)|(simp_all;omega)))|refine zaP rfl ?_|refine zaz rfl ?_|with_reducible refine ⟨by kernel_rfl, ?_⟩|refine zaQ rfl ?_|refine zaR (f := 94) rfl rfl Tryz.call94 rfl c1 ?_|refine zaR (f := 95) rfl rfl Tryz.call95 rfl (c2 (by omega)) ?_|((with_reducible refine zaN ?_);(fail_if_success (refine zax true rfl rfl rfl ?_));(fail_if_success (refine zax false rfl rfl rfl ?_));refine zav rfl rfl (fun _ => ?_) (fun _ => ?_)))
    all_goals
      rw [hR ()]
      first
        | rw [if_pos (by omega)]; done
        | (rw [if_pos (by omega)]; rfl)
        | rw [if_neg (by omega)]; done
        | (rw [if_neg (by omega)]; rfl)

def txJ (s : Txt) : J := .mk 3 false false [] 0 s [] []
def boolJ (b : Bool) : J := .mk 1 b false [] 0 [] [] []
def listJ (l : List J) : J := .mk 4 false false [] 0 [] l []
def mapJ (l : List J) (ks : List Txt) : J := .mk 5 false false [] 0 [] l ks
def numJ (n : Int) : J := .mk 2 false (ofF n 0).1 (ofF n 0).2.1 (ofF n 0).2.2 [] [] []

def xG (l : List J) (ks : List Txt) : List D := [.i .i64 5, .b false, .b false, .s [], .i .i64 0, .s [], .gs 101 8 l.length (jF l), .gs 102 1 ks.length (txF ks)]
def xR (l : List J) (ks : List Txt) : Ow := [(101, .row 55 8 l.length), (102, .row 9 1 ks.length)]
theorem xG_shut (l : List J) (ks : List Txt) : (xG l ks).map D.shut = jP (mapJ l ks) := rfl

theorem zpd (x : J) (gf : Nat → List D) (hg : gf 0 = jP x) : catF 0 (jF []) 1 gf = jF [x] := zfz [] x gf (by rw [zkM]; exact hg)
theorem zpb (v : Txt) (gf : Nat → List D) (hg : gf 0 = [.s v]) : catF 0 (txF []) 1 gf = txF [v] := zmg [] v gf hg

set_option maxRecDepth 100000 in
set_option maxHeartbeats 2000000 in
theorem zhE (y : J) (key : Txt) : CtrO Tryz.prog 33 [.ag j0C, .s key, .ag (jP y)] [] (.ag (xG [y] [key])) (xR [y] [key]) := by
  have e1 := zpd y (chunk 8 (jP y)) rfl
  have e2 := zpb key (chunk 1 [.s key]) rfl
  refine zlg (ids := []) (ids2 := [101, 102]) Tryz.func33 rfl Tryz.ntmps33 Tryz.results33 rfl rfl rfl (fun _ h => by cases h) rfl rfl fun X hL hX => ?_
  repeat' (first |refine T.adoptV 3 6 101 55 8 _ (jF []) rfl rfl rfl ?_|refine T.adoptV 3 7 102 9 1 _ (txF []) rfl rfl rfl ?_|with_reducible (first |refine zaK ?_|refine zaj ?_|refine zaL ?_|refine zaB ?_|refine zaO ?_|refine zaD ?_|refine zaC ?_|refine zar ?_|refine zaq ?_|refine zaI ?_|refine zaE ?_|refine zas ?_|refine zaH ?_)|refine zaw rfl rfl True.intro ?_|refine zau rfl rfl rfl ?_|refine zao rfl rfl rfl ?_|refine zag rfl rfl rfl rfl True.intro ?_|refine zaF rfl ?_|refine zat rfl ?_|((first |refine zal rfl ?_ ?_|refine zan rfl ?_ ?_|refine zak rfl ?_ ?_|refine zam rfl ?_ ?_|refine zap rfl ?_ ?_|refine zaA rfl ?_ ?_|refine zad rfl rfl ?_ ?_|refine zae rfl rfl ?_ ?_|refine zaf rfl rfl ?_ ?_|refine zac rfl rfl ?_ ?_|refine zab rfl rfl ?_ ?_)<;>intro<;>try (first |(rename_i hz;first |exact tf_ hz|exact ft_ hz)|(exfalso;omega)))|((first |refine zaw rfl rfl ?_ ?_|refine zag rfl rfl rfl rfl ?_ ?_|refine zaM rfl rfl ?_ ?_|refine zaJ rfl ?_ ?_|refine zaG rfl rfl rfl rfl ?_ ?_);focus (first |omega|exact le_ rfl|((repeat first |rw [zay]|rw [wi6_]|rw [wi3_]|rw [zai]|rw [zah]);(repeat' refine And.intro ?_ ?_)<;>omega)|((repeat' refine And.intro ?_ ?_)<;>first |omega|rfl|exact Nat.le_refl _|exact le_ rfl|exact zaa _)|(simp_all;done)|(simp_all;omega)))|refine zaP rfl ?_|refine zaz rfl ?_|with_reducible refine ⟨by kernel_rfl, ?_⟩|refine znJ rfl ?_ ?_|refine znV rfl ?_ ?_|((with_reducible refine zaN ?_);(fail_if_success (refine zax true rfl rfl rfl ?_));(fail_if_success (refine zax false rfl rfl rfl ?_));refine zav rfl rfl (fun _ => ?_) (fun _ => ?_)))
  · refine .of_eq ?_
    show D.ag [.i .i64 5, .b false, .b false, .s [], .i .i64 0, .s [], .gs 101 8 1 (catF 0 (jF []) 1 (chunk 8 (jP y))), .gs 102 1 1 (catF 0 (txF []) 1 (chunk 1 [.s key]))] = _
    rw [e1, e2]
    rfl
  · exact ⟨⟨rfl, rfl, trivial⟩⟩

set_option maxRecDepth 100000 in
set_option maxHeartbeats 2000000 in
theorem zbz (l : List J) (ks : List Txt) (y : J) (key : Txt) (hl : l.length ≤ 4194304) (hk : ks.length ≤ 4194304) : CtrO Tryz.prog 33 [.ag (xG l ks), .s key, .ag (jP y)] (xR l ks) (.ag (xG (l ++ [y]) (ks ++ [key]))) (xR (l ++ [y]) (ks ++ [key])) := by
  have e1 := zfz l y (chunk 8 (jP y)) (by rw [zkM]; rfl)
  have e2 := zmg ks key (chunk 1 [.s key]) rfl
  have h1 : (l ++ [y]).length = l.length + 1 := by simp
  have h2 : (ks ++ [key]).length = ks.length + 1 := by simp
  refine zlg (ids := [101, 102]) (ids2 := [101, 102]) Tryz.func33 rfl Tryz.ntmps33 Tryz.results33 rfl rfl rfl (fun _ h => h) rfl rfl fun X hL hX => ?_
  repeat' (first |with_reducible (first |refine zaK ?_|refine zaj ?_|refine zaL ?_|refine zaB ?_|refine zaO ?_|refine zaD ?_|refine zaC ?_|refine zar ?_|refine zaq ?_|refine zaI ?_|refine zaE ?_|refine zas ?_|refine zaH ?_)|refine zaw rfl rfl True.intro ?_|refine zau rfl rfl rfl ?_|refine zao rfl rfl rfl ?_|refine zag rfl rfl rfl rfl True.intro ?_|refine zaF rfl ?_|refine zat rfl ?_|((first |refine zal rfl ?_ ?_|refine zan rfl ?_ ?_|refine zak rfl ?_ ?_|refine zam rfl ?_ ?_|refine zap rfl ?_ ?_|refine zaA rfl ?_ ?_|refine zad rfl rfl ?_ ?_|refine zae rfl rfl ?_ ?_|refine zaf rfl rfl ?_ ?_|refine zac rfl rfl ?_ ?_|refine zab rfl rfl ?_ ?_)<;>intro<;>try (first |(rename_i hz;first |exact tf_ hz|exact ft_ hz)|(exfalso;omega)))|((first |refine zaw rfl rfl ?_ ?_|refine zag rfl rfl rfl rfl ?_ ?_|refine zaM rfl rfl ?_ ?_|refine zaJ rfl ?_ ?_|refine zaG rfl rfl rfl rfl ?_ ?_);focus (first |omega|exact le_ rfl|((repeat first |rw [zay]|rw [wi6_]|rw [wi3_]|rw [zai]|rw [zah]);(repeat' refine And.intro ?_ ?_)<;>omega)|((repeat' refine And.intro ?_ ?_)<;>first |omega|rfl|exact Nat.le_refl _|exact le_ rfl|exact zaa _)|(simp_all;done)|(simp_all;omega)))|refine zaP rfl ?_|refine zaz rfl ?_|with_reducible refine ⟨by kernel_rfl, ?_⟩|refine znJ rfl ?_ ?_|refine znV rfl ?_ ?_|((with_reducible refine zaN ?_);(fail_if_success (refine zax true rfl rfl rfl ?_));(fail_if_success (refine zax false rfl rfl rfl ?_));refine zav rfl rfl (fun _ => ?_) (fun _ => ?_)))
  · refine .of_eq ?_
    unfold xG
    rw [h1, h2, ← e1, ← e2]
    rfl
  · unfold xR
    rw [h1, h2]
    exact ⟨⟨rfl, rfl, trivial⟩⟩

theorem zde (l : List J) : Weak (.ag [.i .i64 4, .b false, .b false, .s [], .i .i64 0, .s [], .sl 8 l.length (jF l), .nilS]) (.ag (jP (listJ l))) := .ag _ _ rfl fun j hj => match j, hj with
  | 0, _ => .refl _
  | 1, _ => .refl _
  | 2, _ => .refl _
  | 3, _ => .refl _
  | 4, _ => .refl _
  | 5, _ => .refl _
  | 6, _ => .refl _
  | 7, _ => .nil 1 _
theorem zfS (b : Bool) : Weak (.ag [.i .i64 1, .b b, .b false, .s [], .i .i64 0, .s [], .nilS, .nilS]) (.ag (jP (boolJ b))) := by
  rw [← zkM]
  exact zdZ 1 b false [] 0 []
theorem CtrO.weakThird {P : Program} {f : FuncId} {x k a a' : D} {ow ow' : Ow} {d : D} (h : CtrO P f [x, k, a'] ow d ow') (hw : Weak a a') : CtrO P f [x, k, a] ow d ow' := h.weakArgs rfl fun j hj => match j, hj with
  | 0, _ => .refl _
  | 1, _ => .refl _
  | 2, _ => hw

theorem zev {α β : Type} {f : α → β} {d : α} {l : List α} {i : Nat} (hi : i < l.length) : (l.take (i + 1)).map f = (l.take i).map f ++ [f (l.getD i d)] := by
  rw [List.take_add_one, List.map_append]
  simp [List.getD_eq_getElem?_getD, hi]

set_option maxRecDepth 100000 in
set_option maxHeartbeats 2000000 in
theorem zfj (ts : List Txt) (ht : ts.length ≤ 4194304) : Ctr Tryz.prog 62 [.sl 1 ts.length (txF ts)] (.ag (jP (listJ (ts.map txJ)))) := by
  refine zbe Tryz.func62 rfl Tryz.ntmps62 Tryz.results62 rfl rfl fun X hL hX => ?_
  repeat' (first |refine T.adoptV 3 6 101 55 8 _ (jF []) rfl rfl rfl ?_|with_reducible (first |refine zaK ?_|refine zaj ?_|refine zaL ?_|refine zaB ?_|refine zaO ?_|refine zaD ?_|refine zaC ?_|refine zar ?_|refine zaq ?_|refine zaI ?_|refine zaE ?_|refine zas ?_|refine zaH ?_)|refine zaw rfl rfl True.intro ?_|refine zau rfl rfl rfl ?_|refine zao rfl rfl rfl ?_|refine zag rfl rfl rfl rfl True.intro ?_|refine zaF rfl ?_|refine zat rfl ?_|((first |refine zal rfl ?_ ?_|refine zan rfl ?_ ?_|refine zak rfl ?_ ?_|refine zam rfl ?_ ?_|refine zap rfl ?_ ?_|refine zaA rfl ?_ ?_|refine zad rfl rfl ?_ ?_|refine zae rfl rfl ?_ ?_|refine zaf rfl rfl ?_ ?_|refine zac rfl rfl ?_ ?_|refine zab rfl rfl ?_ ?_)<;>intro<;>try (first |(rename_i hz;first |exact tf_ hz|exact ft_ hz)|(exfalso;omega)))|((first |refine zaw rfl rfl ?_ ?_|refine zag rfl rfl rfl rfl ?_ ?_|refine zaM rfl rfl ?_ ?_|refine zaJ rfl ?_ ?_|refine zaG rfl rfl rfl rfl ?_ ?_);focus (first |omega|exact le_ rfl|((repeat first |rw [zay]|rw [wi6_]|rw [wi3_]|rw [zai]|rw [zah]);(repeat' refine And.intro ?_ ?_)<;>omega)|((repeat' refine And.intro ?_ ?_)<;>first |omega|rfl|exact Nat.le_refl _|exact le_ rfl|exact zaa _)|(simp_all;done)|(simp_all;omega)))|refine zaP rfl ?_|refine zaz rfl ?_|with_reducible refine ⟨by kernel_rfl, ?_⟩|refine zcV rfl ?_|refine zdl rfl ?_|((with_reducible refine zaN ?_);(fail_if_success (refine zax true rfl rfl rfl ?_));(fail_if_success (refine zax false rfl rfl rfl ?_));refine zav rfl rfl (fun _ => ?_) (fun _ => ?_)))
  refine T.loop hL (fun i : Nat => [(2, .pv 2 0), (3, .pv 3 0), (7, .sl 1 ts.length (txF ts)), (8, .i .i64 ts.length), (9, .i .i64 i)]) (fun i => [(2, .var j0C), (3, .var [.i .i64 4, .b false, .b false, .s [], .i .i64 0, .s [], .gs 101 8 ((ts.take i).map txJ).length (jF ((ts.take i).map txJ)), .nilS]), (101, .row 55 8 ((ts.take i).map txJ).length)])
    (fun i => i ≤ ts.length ∧ ((ts.take i).map txJ).length = i) (fun i => ts.length - i) 0 ⟨Nat.zero_le _, by simp⟩
    ⟨⟨rfl, rfl, rfl, rfl, rfl, trivial⟩, ⟨rfl, rfl, rfl, trivial⟩, rfl, by rw [hX]; simp⟩ ?_
  rintro i ⟨g1, g2⟩
  try dsimp only at g1 g2 ⊢
  have hnat : (i : Int).toNat = i := Int.toNat_natCast i
  by_cases hil : i < ts.length
  · have hil' : (i : Int) < ts.length := by omega
    have c := zeb (ts.getD (i : Int).toNat [])
    have e := zev (f := txJ) (d := []) hil
    have e1 := zfz ((ts.take i).map txJ) (txJ (ts.getD (i : Int).toNat [])) (chunk 8 (jP (txJ (ts.getD (i : Int).toNat [])))) (by rw [zkM]; rfl)
    rw [hnat] at e1
    have g3 : ((ts.take (i + 1)).map txJ).length = ((ts.take i).map txJ).length + 1 := by rw [e, List.length_append]; rfl
    repeat' (first |refine zaR (f := 34) rfl rfl Tryz.call34 rfl c ?_|with_reducible (first |refine zaK ?_|refine zaj ?_|refine zaL ?_|refine zaB ?_|refine zaO ?_|refine zaD ?_|refine zaC ?_|refine zar ?_|refine zaq ?_|refine zaI ?_|refine zaE ?_|refine zas ?_|refine zaH ?_)|refine zaw rfl rfl True.intro ?_|refine zau rfl rfl rfl ?_|refine zao rfl rfl rfl ?_|refine zag rfl rfl rfl rfl True.intro ?_|refine zaF rfl ?_|refine zat rfl ?_|((first |refine zal rfl ?_ ?_|refine zan rfl ?_ ?_|refine zak rfl ?_ ?_|refine zam rfl ?_ ?_|refine zap rfl ?_ ?_|refine zaA rfl ?_ ?_|refine zad rfl rfl ?_ ?_|refine zae rfl rfl ?_ ?_|refine zaf rfl rfl ?_ ?_|refine zac rfl rfl ?_ ?_|refine zab rfl rfl ?_ ?_)<;>intro<;>try (first |(rename_i hz;first |exact tf_ hz|exact ft_ hz)|(exfalso;omega)))|((first |refine zaw rfl rfl ?_ ?_|refine zag rfl rfl rfl rfl ?_ ?_|refine zaM rfl rfl ?_ ?_|refine zaJ rfl ?_ ?_|refine zaG rfl rfl rfl rfl ?_ ?_);focus (first |omega|exact le_ rfl|((repeat first |rw [zay]|rw [wi6_]|rw [wi3_]|rw [zai]|rw [zah]);(repeat' refine And.intro ?_ ?_)<;>omega)|((repeat' refine And.intro ?_ ?_)<;>first |omega|rfl|exact Nat.le_refl _|exact le_ rfl|exact zaa _)|(simp_all;done)|(simp_all;omega)))|refine zaP rfl ?_|refine zaz rfl ?_|with_reducible refine ⟨by kernel_rfl, ?_⟩|refine zcV rfl ?_|refine zdl rfl ?_|((with_reducible refine zaN ?_);(fail_if_success (refine zax true rfl rfl rfl ?_));(fail_if_success (refine zax false rfl rfl rfl ?_));refine zav rfl rfl (fun _ => ?_) (fun _ => ?_)))
    all_goals exact ⟨i + 1, ⟨by omega, by omega⟩, by omega, ⟨rfl, rfl, rfl, rfl, rfl, trivial⟩, ⟨rfl, by rw [g3, e, ← e1, ← hnat]; rfl, by rw [g3]; rfl, trivial⟩, rfl, by rw [hX]; simp⟩
  have hil' : ¬ (i : Int) < ts.length := by omega
  have ea : ts.take i = ts := List.take_of_length_le (by omega)
  rw [ea]
  repeat' (first |with_reducible (first |refine zaK ?_|refine zaj ?_|refine zaL ?_|refine zaB ?_|refine zaO ?_|refine zaD ?_|refine zaC ?_|refine zar ?_|refine zaq ?_|refine zaI ?_|refine zaE ?_|refine zas ?_|refine zaH ?_)|refine zaw rfl rfl True.intro ?_|refine zau rfl rfl rfl ?_|refine zao rfl rfl rfl ?_|refine zag rfl rfl rfl rfl True.intro ?_|refine zaF rfl ?_|refine zat rfl ?_|((first |refine zal rfl ?_ ?_|refine zan rfl ?_ ?_|refine zak rfl ?_ ?_|refine zam rfl ?_ ?_|refine zap rfl ?_ ?_|refine zaA rfl ?_ ?_|refine zad rfl rfl ?_ ?_|refine zae rfl rfl ?_ ?_|refine zaf rfl rfl ?_ ?_|refine zac rfl rfl ?_ ?_|refine zab rfl rfl ?_ ?_)<;>intro<;>try (first |(rename_i hz;first |exact tf_ hz|exact ft_ hz)|(exfalso;omega)))|((first |refine zaw rfl rfl ?_ ?_|refine zag rfl rfl rfl rfl ?_ ?_|refine zaM rfl rfl ?_ ?_|refine zaJ rfl ?_ ?_|refine zaG rfl rfl rfl rfl ?_ ?_);focus (first |omega|exact le_ rfl|((repeat first |rw [zay]|rw [wi6_]|rw [wi3_]|rw [zai]|rw [zah]);(repeat' refine And.intro ?_ ?_)<;>omega)|((repeat' refine And.intro ?_ ?_)<;>first |omega|rfl|exact Nat.le_refl _|exact le_ rfl|exact zaa _)|(simp_all;done)|(simp_all;omega)))|refine zaP rfl ?_|refine zaz rfl ?_|with_reducible refine ⟨by kernel_rfl, ?_⟩|refine zcV rfl ?_|refine zdl rfl ?_|((with_reducible refine zaN ?_);(fail_if_success (refine zax true rfl rfl rfl ?_));(fail_if_success (refine zax false rfl rfl rfl ?_));refine zav rfl rfl (fun _ => ?_) (fun _ => ?_)))
  all_goals exact zde _

theorem zgp (n : Int) (h0 : -9223372036854775808 ≤ n) (h1 : n ≤ 9223372036854775807) : Ctr Tryz.prog 35 [.i .i64 n] (.ag (jP (numJ n))) := by
  have c1 := zpX n 0 h0 h1
  have c2 := zmN (ofF n 0).1 (ofF n 0).2.1 (ofF n 0).2.2
  refine zbe Tryz.func35 rfl Tryz.ntmps35 Tryz.results35 rfl rfl fun X hL hX => ?_
  repeat' (first |refine zaR (f := 64) rfl rfl Tryz.call64 rfl c1 ?_|refine zaR (f := 63) rfl rfl Tryz.call63 rfl c2 ?_|with_reducible (first |refine zaK ?_|refine zaj ?_|refine zaL ?_|refine zaB ?_|refine zaO ?_|refine zaD ?_|refine zaC ?_|refine zar ?_|refine zaq ?_|refine zaI ?_|refine zaE ?_|refine zas ?_|refine zaH ?_)|refine zaw rfl rfl True.intro ?_|refine zau rfl rfl rfl ?_|refine zao rfl rfl rfl ?_|refine zag rfl rfl rfl rfl True.intro ?_|refine zaF rfl ?_|refine zat rfl ?_|((first |refine zal rfl ?_ ?_|refine zan rfl ?_ ?_|refine zak rfl ?_ ?_|refine zam rfl ?_ ?_|refine zap rfl ?_ ?_|refine zaA rfl ?_ ?_|refine zad rfl rfl ?_ ?_|refine zae rfl rfl ?_ ?_|refine zaf rfl rfl ?_ ?_|refine zac rfl rfl ?_ ?_|refine zab rfl rfl ?_ ?_)<;>intro<;>try (first |(rename_i hz;first |exact tf_ hz|exact ft_ hz)|(exfalso;omega)))|((first |refine zaw rfl rfl ?_ ?_|refine zag rfl rfl rfl rfl ?_ ?_|refine zaM rfl rfl ?_ ?_|refine zaJ rfl ?_ ?_|refine zaG rfl rfl rfl rfl ?_ ?_);focus (first |omega|exact le_ rfl|((repeat first |rw [zay]|rw [wi6_]|rw [wi3_]|rw [zai]|rw [zah]);(repeat' refine And.intro ?_ ?_)<;>omega)|((repeat' refine And.intro ?_ ?_)<;>first |omega|rfl|exact Nat.le_refl _|exact le_ rfl|exact zaa _)|(simp_all;done)|(simp_all;omega)))|refine zaP rfl ?_|refine zaz rfl ?_|with_reducible refine ⟨by kernel_rfl, ?_⟩|refine zcV rfl ?_|refine zdl rfl ?_|((with_reducible refine zaN ?_);(fail_if_success (refine zax true rfl rfl rfl ?_));(fail_if_success (refine zax false rfl rfl rfl ?_));refine zav rfl rfl (fun _ => ?_) (fun _ => ?_)))
  all_goals exact .of_eq rfl

theorem new2 {ow : Ow} (h1 : look 101 ow = none) (h2 : look 102 ow = none) : ∀ k ∈ [101, 102], k ∉ ([] : List Nat) → look k ow = none := fun k h _ => by
  rcases List.mem_cons.1 h with rfl | h
  · exact h1
  rcases List.mem_cons.1 h with rfl | h
  · exact h2
  cases h

def kArchive : Txt := [97, 114, 99, 104, 105, 118, 101]
def kLayers : Txt := [108, 97, 121, 101, 114, 115]
def kCsv : Txt := [99, 115, 118]
def kKey : Txt := [107, 101, 121]
def kAttr : Txt := [97, 116, 116, 114]
def kOnly : Txt := [111, 110, 108, 121]
def kNot : Txt := [110, 111, 116]
def kTexts : Txt := [116, 101, 120, 116, 115]
def kDrop : Txt := [100, 114, 111, 112]
def layJ (p : Fld) : J := listJ ([p.1, p.2].map txJ)
def srcV1 (s : SrcR) : List J := if s.lays = [] then [txJ s.arch] else [txJ s.arch, listJ (s.lays.map layJ)]
def srcK1 (s : SrcR) : List Txt := if s.lays = [] then [kArchive] else [kArchive, kLayers]
def srcJ (s : SrcR) : J := if s.csv = [] then mapJ (srcV1 s) (srcK1 s) else mapJ (srcV1 s ++ [txJ s.csv] ++ [txJ s.key] ++ [txJ s.attr] ++ [listJ (s.only.map txJ)] ++ [listJ (s.notl.map txJ)] ++ [boolJ s.texts] ++ [boolJ s.drop]) (srcK1 s ++ [kCsv] ++ [kKey] ++ [kAttr] ++ [kOnly] ++ [kNot] ++ [kTexts] ++ [kDrop])
theorem zlB (s : SrcR) : (srcV1 s).length ≤ 2 := by
  unfold srcV1
  split <;> simp
theorem zle (s : SrcR) : (srcK1 s).length ≤ 2 := by
  unfold srcK1
  split <;> simp

set_option maxRecDepth 100000 in
set_option maxHeartbeats 8000000 in
theorem zhS (s : SrcR) (hs : fitS s) : Ctr Tryz.prog 32 [.ag (srcP s)] (.ag (jP (srcJ s))) := by
  obtain ⟨s1, s2, s3⟩ := hs
  have oA := zeb s.arch
  have wA := zhE (txJ s.arch) kArchive
  refine zbe Tryz.func32 rfl Tryz.ntmps32 Tryz.results32 rfl rfl fun X hL hX => ?_
  repeat' (first |refine zly 2 hL (fun _ : Unit => [(1, .pv 1 0), (2, .pv 2 0), (3, .pv 3 0)]) (fun _ => (1, .var (srcP s)) :: (2, .var j0C) :: (3, .var (xG (srcV1 s) (srcK1 s))) :: xR (srcV1 s) (srcK1 s)) (fun _ => True) ?_ ?_|refine T.adoptV 4 6 100 55 8 _ (jF []) rfl rfl rfl ?_|refine zaR (f := 34) rfl rfl Tryz.call34 rfl oA ?_|refine zbE (f := 33) [] (xR [txJ s.arch] [kArchive]) [] [101, 102] rfl rfl (by decide) (fun _ h => by cases h) (new2 rfl rfl) rfl rfl Tryz.call33 trivial rfl rfl rfl rfl wA ?_|with_reducible (first |refine zaK ?_|refine zaj ?_|refine zaL ?_|refine zaB ?_|refine zaO ?_|refine zaD ?_|refine zaC ?_|refine zar ?_|refine zaq ?_|refine zaI ?_|refine zaE ?_|refine zas ?_|refine zaH ?_)|refine zaw rfl rfl True.intro ?_|refine zau rfl rfl rfl ?_|refine zao rfl rfl rfl ?_|refine zag rfl rfl rfl rfl True.intro ?_|refine zaF rfl ?_|refine zat rfl ?_|((first |refine zal rfl ?_ ?_|refine zan rfl ?_ ?_|refine zak rfl ?_ ?_|refine zam rfl ?_ ?_|refine zap rfl ?_ ?_|refine zaA rfl ?_ ?_|refine zad rfl rfl ?_ ?_|refine zae rfl rfl ?_ ?_|refine zaf rfl rfl ?_ ?_|refine zac rfl rfl ?_ ?_|refine zab rfl rfl ?_ ?_)<;>intro<;>try (first |(rename_i hz;first |exact tf_ hz|exact ft_ hz)|(exfalso;omega)))|((first |refine zaw rfl rfl ?_ ?_|refine zag rfl rfl rfl rfl ?_ ?_|refine zaM rfl rfl ?_ ?_|refine zaJ rfl ?_ ?_|refine zaG rfl rfl rfl rfl ?_ ?_);focus (first |omega|exact le_ rfl|((repeat first |rw [zay]|rw [wi6_]|rw [wi3_]|rw [zai]|rw [zah]);(repeat' refine And.intro ?_ ?_)<;>omega)|((repeat' refine And.intro ?_ ?_)<;>first |omega|rfl|exact Nat.le_refl _|exact le_ rfl|exact zaa _)|(simp_all;done)|(simp_all;omega)))|refine zaP rfl ?_|refine zaz rfl ?_|with_reducible refine ⟨by kernel_rfl, ?_⟩|((with_reducible refine zaN ?_);(fail_if_success (refine zax true rfl rfl rfl ?_));(fail_if_success (refine zax false rfl rfl rfl ?_));refine zav rfl rfl (fun _ => ?_) (fun _ => ?_)))
  · have hl : ¬ s.lays = [] := fun h => by
      have h2 : (s.lays.length : Int) > 0 := by assumption
      rw [h] at h2
      simp at h2
    refine T.loop hL (fun i : Nat => [(1, .pv 1 0), (2, .pv 2 0), (3, .pv 3 0), (4, .pv 4 0), (19, .sl 2 s.lays.length (fldF s.lays)), (20, .i .i64 s.lays.length), (21, .i .i64 i)]) (fun i => [(1, .var (srcP s)), (2, .var j0C), (3, .var (xG [txJ s.arch] [kArchive])), (4, .var [.i .i64 4, .b false, .b false, .s [], .i .i64 0, .s [], .gs 100 8 ((s.lays.take i).map layJ).length (jF ((s.lays.take i).map layJ)), .nilS]), (100, .row 55 8 ((s.lays.take i).map layJ).length), (101, .row 55 8 1), (102, .row 9 1 1)])
      (fun i => i ≤ s.lays.length ∧ ((s.lays.take i).map layJ).length = i) (fun i => s.lays.length - i) 0 ⟨Nat.zero_le _, by simp⟩
      ⟨⟨rfl, rfl, rfl, rfl, rfl, rfl, rfl, trivial⟩, ⟨rfl, rfl, rfl, rfl, rfl, rfl, rfl, trivial⟩, rfl, by rw [hX]; simp⟩ ?_
    rintro i ⟨g1, g2⟩
    try dsimp only at g1 g2 ⊢
    have hnat : (i : Int).toNat = i := Int.toNat_natCast i
    by_cases hil : i < s.lays.length
    · have hil' : (i : Int) < s.lays.length := by omega
      have c := (zfj [(s.lays.getD (i : Int).toNat ([], [])).1, (s.lays.getD (i : Int).toNat ([], [])).2] (by simp)).weak1 (zmJ _ _)
      have e := zev (f := layJ) (d := ([], [])) hil
      have e1 := zfz ((s.lays.take i).map layJ) (layJ (s.lays.getD (i : Int).toNat ([], []))) (chunk 8 (jP (layJ (s.lays.getD (i : Int).toNat ([], []))))) (by rw [zkM]; rfl)
      have g3 : ((s.lays.take (i + 1)).map layJ).length = ((s.lays.take i).map layJ).length + 1 := by rw [e, List.length_append]; rfl
      rw [hnat] at e1
      repeat' (first |refine T.frzV 6 6 0 _ rfl rfl rfl ?_|refine zpG rfl rfl (le_ rfl) rfl ?_|refine zaR (f := 62) rfl rfl Tryz.call62 rfl c ?_|with_reducible (first |refine zaK ?_|refine zaj ?_|refine zaL ?_|refine zaB ?_|refine zaO ?_|refine zaD ?_|refine zaC ?_|refine zar ?_|refine zaq ?_|refine zaI ?_|refine zaE ?_|refine zas ?_|refine zaH ?_)|refine zaw rfl rfl True.intro ?_|refine zau rfl rfl rfl ?_|refine zao rfl rfl rfl ?_|refine zag rfl rfl rfl rfl True.intro ?_|refine zaF rfl ?_|refine zat rfl ?_|((first |refine zal rfl ?_ ?_|refine zan rfl ?_ ?_|refine zak rfl ?_ ?_|refine zam rfl ?_ ?_|refine zap rfl ?_ ?_|refine zaA rfl ?_ ?_|refine zad rfl rfl ?_ ?_|refine zae rfl rfl ?_ ?_|refine zaf rfl rfl ?_ ?_|refine zac rfl rfl ?_ ?_|refine zab rfl rfl ?_ ?_)<;>intro<;>try (first |(rename_i hz;first |exact tf_ hz|exact ft_ hz)|(exfalso;omega)))|((first |refine zaw rfl rfl ?_ ?_|refine zag rfl rfl rfl rfl ?_ ?_|refine zaM rfl rfl ?_ ?_|refine zaJ rfl ?_ ?_|refine zaG rfl rfl rfl rfl ?_ ?_);focus (first |omega|exact le_ rfl|((repeat first |rw [zay]|rw [wi6_]|rw [wi3_]|rw [zai]|rw [zah]);(repeat' refine And.intro ?_ ?_)<;>omega)|((repeat' refine And.intro ?_ ?_)<;>first |omega|rfl|exact Nat.le_refl _|exact le_ rfl|exact zaa _)|(simp_all;done)|(simp_all;omega)))|refine zaP rfl ?_|refine zaz rfl ?_|with_reducible refine ⟨by kernel_rfl, ?_⟩|((with_reducible refine zaN ?_);(fail_if_success (refine zax true rfl rfl rfl ?_));(fail_if_success (refine zax false rfl rfl rfl ?_));refine zav rfl rfl (fun _ => ?_) (fun _ => ?_)))
      all_goals exact ⟨i + 1, ⟨by omega, by omega⟩, by omega, ⟨rfl, rfl, rfl, rfl, rfl, rfl, rfl, trivial⟩, ⟨rfl, rfl, rfl, by rw [g3, e, ← e1]; rfl, by rw [g3]; rfl, rfl, rfl, trivial⟩, rfl, by rw [hX]; simp⟩
    have hil' : ¬ (i : Int) < s.lays.length := by omega
    have ea : s.lays.take i = s.lays := List.take_of_length_le (by omega)
    rw [ea]
    have wL := (zbz [txJ s.arch] [kArchive] (listJ (s.lays.map layJ)) kLayers (by simp) (by simp)).weakThird (zde _)
    repeat' (first |refine zbE (f := 33) (xR [txJ s.arch] [kArchive]) (xR ([txJ s.arch] ++ [listJ (s.lays.map layJ)]) ([kArchive] ++ [kLayers])) [101, 102] [101, 102] rfl rfl (by decide) (fun _ h => h) (fun k h1 h2 => absurd h1 h2) rfl rfl Tryz.call33 ⟨rfl, rfl, trivial⟩ rfl rfl rfl rfl wL ?_|with_reducible (first |refine zaK ?_|refine zaj ?_|refine zaL ?_|refine zaB ?_|refine zaO ?_|refine zaD ?_|refine zaC ?_|refine zar ?_|refine zaq ?_|refine zaI ?_|refine zaE ?_|refine zas ?_|refine zaH ?_)|refine zaw rfl rfl True.intro ?_|refine zau rfl rfl rfl ?_|refine zao rfl rfl rfl ?_|refine zag rfl rfl rfl rfl True.intro ?_|refine zaF rfl ?_|refine zat rfl ?_|((first |refine zal rfl ?_ ?_|refine zan rfl ?_ ?_|refine zak rfl ?_ ?_|refine zam rfl ?_ ?_|refine zap rfl ?_ ?_|refine zaA rfl ?_ ?_|refine zad rfl rfl ?_ ?_|refine zae rfl rfl ?_ ?_|refine zaf rfl rfl ?_ ?_|refine zac rfl rfl ?_ ?_|refine zab rfl rfl ?_ ?_)<;>intro<;>try (first |(rename_i hz;first |exact tf_ hz|exact ft_ hz)|(exfalso;omega)))|((first |refine zaw rfl rfl ?_ ?_|refine zag rfl rfl rfl rfl ?_ ?_|refine zaM rfl rfl ?_ ?_|refine zaJ rfl ?_ ?_|refine zaG rfl rfl rfl rfl ?_ ?_);focus (first |omega|exact le_ rfl|((repeat first |rw [zay]|rw [wi6_]|rw [wi3_]|rw [zai]|rw [zah]);(repeat' refine And.intro ?_ ?_)<;>omega)|((repeat' refine And.intro ?_ ?_)<;>first |omega|rfl|exact Nat.le_refl _|exact le_ rfl|exact zaa _)|(simp_all;done)|(simp_all;omega)))|refine zaP rfl ?_|refine zaz rfl ?_|with_reducible refine ⟨by kernel_rfl, ?_⟩|((with_reducible refine zaN ?_);(fail_if_success (refine zax true rfl rfl rfl ?_));(fail_if_success (refine zax false rfl rfl rfl ?_));refine zav rfl rfl (fun _ => ?_) (fun _ => ?_)))
    have v1 : srcV1 s = [txJ s.arch] ++ [listJ (s.lays.map layJ)] := if_neg hl
    have k1 : srcK1 s = [kArchive] ++ [kLayers] := if_neg hl
    rw [v1, k1]
    exact ⟨(), trivial, ⟨rfl, rfl, rfl, trivial⟩, ⟨rfl, rfl, rfl, rfl, rfl, trivial⟩, rfl, by rw [hX]; simp⟩
  · have hl : s.lays = [] := by
      have h2 : ¬ (s.lays.length : Int) > 0 := by assumption
      exact List.length_eq_zero_iff.1 (by omega)
    have v1 : srcV1 s = [txJ s.arch] := if_pos hl
    have k1 : srcK1 s = [kArchive] := if_pos hl
    rw [v1, k1]
    exact ⟨(), trivial, ⟨rfl, rfl, rfl, trivial⟩, ⟨rfl, rfl, rfl, rfl, rfl, trivial⟩, rfl, by rw [hX]; simp⟩
  intro _ _
  have hV := zlB s
  have hK := zle s
  unfold srcJ
  generalize srcV1 s = V at *
  generalize srcK1 s = K at *
  have o0 := zeb s.csv
  have o1 := zeb s.key
  have o2 := zeb s.attr
  have l0 := zfj s.only (by omega)
  have l1 := zfj s.notl (by omega)
  have w0 := zbz (V) (K) (txJ s.csv) kCsv (by first | omega | (simp only [List.length_append, List.length_cons, List.length_nil]; omega)) (by first | omega | (simp only [List.length_append, List.length_cons, List.length_nil]; omega))
  have w1 := zbz (V ++ [txJ s.csv]) (K ++ [kCsv]) (txJ s.key) kKey (by first | omega | (simp only [List.length_append, List.length_cons, List.length_nil]; omega)) (by first | omega | (simp only [List.length_append, List.length_cons, List.length_nil]; omega))
  have w2 := zbz (V ++ [txJ s.csv] ++ [txJ s.key]) (K ++ [kCsv] ++ [kKey]) (txJ s.attr) kAttr (by first | omega | (simp only [List.length_append, List.length_cons, List.length_nil]; omega)) (by first | omega | (simp only [List.length_append, List.length_cons, List.length_nil]; omega))
  have w3 := zbz (V ++ [txJ s.csv] ++ [txJ s.key] ++ [txJ s.attr]) (K ++ [kCsv] ++ [kKey] ++ [kAttr]) (listJ (s.only.map txJ)) kOnly (by first | omega | (simp only [List.length_append, List.length_cons, List.length_nil]; omega)) (by first | omega | (simp only [List.length_append, List.length_cons, List.length_nil]; omega))
  have w4 := zbz (V ++ [txJ s.csv] ++ [txJ s.key] ++ [txJ s.attr] ++ [listJ (s.only.map txJ)]) (K ++ [kCsv] ++ [kKey] ++ [kAttr] ++ [kOnly]) (listJ (s.notl.map txJ)) kNot (by first | omega | (simp only [List.length_append, List.length_cons, List.length_nil]; omega)) (by first | omega | (simp only [List.length_append, List.length_cons, List.length_nil]; omega))
  have w5 := (zbz (V ++ [txJ s.csv] ++ [txJ s.key] ++ [txJ s.attr] ++ [listJ (s.only.map txJ)] ++ [listJ (s.notl.map txJ)]) (K ++ [kCsv] ++ [kKey] ++ [kAttr] ++ [kOnly] ++ [kNot]) (boolJ s.texts) kTexts (by first | omega | (simp only [List.length_append, List.length_cons, List.length_nil]; omega)) (by first | omega | (simp only [List.length_append, List.length_cons, List.length_nil]; omega))).weakThird (zfS _)
  have w6 := (zbz (V ++ [txJ s.csv] ++ [txJ s.key] ++ [txJ s.attr] ++ [listJ (s.only.map txJ)] ++ [listJ (s.notl.map txJ)] ++ [boolJ s.texts]) (K ++ [kCsv] ++ [kKey] ++ [kAttr] ++ [kOnly] ++ [kNot] ++ [kTexts]) (boolJ s.drop) kDrop (by first | omega | (simp only [List.length_append, List.length_cons, List.length_nil]; omega)) (by first | omega | (simp only [List.length_append, List.length_cons, List.length_nil]; omega))).weakThird (zfS _)
  clear oA wA
  by_cases hc : s.csv = []
  · have hc' : ¬ (s.csv == (⟨#[]⟩ : ByteArray).data.toList) = false := fun h => beq_eq_false_iff_ne.1 h hc
    rw [if_pos hc]
    clear o0 o1 o2 l0 l1 w0 w1 w2 w3 w4 w5 w6
    repeat' (first |with_reducible (first |refine zaK ?_|refine zaj ?_|refine zaL ?_|refine zaB ?_|refine zaO ?_|refine zaD ?_|refine zaC ?_|refine zar ?_|refine zaq ?_|refine zaI ?_|refine zaE ?_|refine zas ?_|refine zaH ?_)|refine zaw rfl rfl True.intro ?_|refine zau rfl rfl rfl ?_|refine zao rfl rfl rfl ?_|refine zag rfl rfl rfl rfl True.intro ?_|refine zaF rfl ?_|refine zat rfl ?_|((first |refine zal rfl ?_ ?_|refine zan rfl ?_ ?_|refine zak rfl ?_ ?_|refine zam rfl ?_ ?_|refine zap rfl ?_ ?_|refine zaA rfl ?_ ?_|refine zad rfl rfl ?_ ?_|refine zae rfl rfl ?_ ?_|refine zaf rfl rfl ?_ ?_|refine zac rfl rfl ?_ ?_|refine zab rfl rfl ?_ ?_)<;>intro<;>try (first |contradiction|(exfalso;omega)))|((first |refine zaw rfl rfl ?_ ?_|refine zag rfl rfl rfl rfl ?_ ?_|refine zaM rfl rfl ?_ ?_|refine zaJ rfl ?_ ?_|refine zaG rfl rfl rfl rfl ?_ ?_);focus (first |omega|exact le_ rfl|((repeat first |rw [zay]|rw [wi6_]|rw [wi3_]|rw [zai]|rw [zah]);(repeat' refine And.intro ?_ ?_)<;>omega)|((repeat' refine And.intro ?_ ?_)<;>first |omega|rfl|exact Nat.le_refl _|exact le_ rfl|exact zaa _)|(simp_all;done)|(simp_all;omega)))|refine zaP rfl ?_|refine zaz rfl ?_|with_reducible refine ⟨by kernel_rfl, ?_⟩|refine zcV rfl ?_|refine zdl rfl ?_|((with_reducible refine zaN ?_);(fail_if_success (refine zax true rfl rfl rfl ?_));(fail_if_success (refine zax false rfl rfl rfl ?_));refine zav rfl rfl (fun _ => ?_) (fun _ => ?_)))
    all_goals exact .of_eq rfl
  · have hc' : ¬ (s.csv == (⟨#[]⟩ : ByteArray).data.toList) = true := fun h => hc (beq_iff_eq.1 h)
    rw [if_neg hc]
    repeat' (first |refine zaR (f := 34) rfl rfl Tryz.call34 rfl o0 ?_|refine zaR (f := 34) rfl rfl Tryz.call34 rfl o1 ?_|refine zaR (f := 34) rfl rfl Tryz.call34 rfl o2 ?_|refine zaR (f := 62) rfl rfl Tryz.call62 rfl l0 ?_|refine zaR (f := 62) rfl rfl Tryz.call62 rfl l1 ?_|refine zbE (f := 33) (xR (V) (K)) (xR (V ++ [txJ s.csv]) (K ++ [kCsv])) [101, 102] [101, 102] rfl rfl (by decide) (fun _ h => h) (fun k h1 h2 => absurd h1 h2) rfl rfl Tryz.call33 ⟨rfl, rfl, trivial⟩ rfl rfl rfl rfl w0 ?_|refine zbE (f := 33) (xR (V ++ [txJ s.csv]) (K ++ [kCsv])) (xR (V ++ [txJ s.csv] ++ [txJ s.key]) (K ++ [kCsv] ++ [kKey])) [101, 102] [101, 102] rfl rfl (by decide) (fun _ h => h) (fun k h1 h2 => absurd h1 h2) rfl rfl Tryz.call33 ⟨rfl, rfl, trivial⟩ rfl rfl rfl rfl w1 ?_|refine zbE (f := 33) (xR (V ++ [txJ s.csv] ++ [txJ s.key]) (K ++ [kCsv] ++ [kKey])) (xR (V ++ [txJ s.csv] ++ [txJ s.key] ++ [txJ s.attr]) (K ++ [kCsv] ++ [kKey] ++ [kAttr])) [101, 102] [101, 102] rfl rfl (by decide) (fun _ h => h) (fun k h1 h2 => absurd h1 h2) rfl rfl Tryz.call33 ⟨rfl, rfl, trivial⟩ rfl rfl rfl rfl w2 ?_|refine zbE (f := 33) (xR (V ++ [txJ s.csv] ++ [txJ s.key] ++ [txJ s.attr]) (K ++ [kCsv] ++ [kKey] ++ [kAttr])) (xR (V ++ [txJ s.csv] ++ [txJ s.key] ++ [txJ s.attr] ++ [listJ (s.only.map txJ)]) (K ++ [kCsv] ++ [kKey] ++ [kAttr] ++ [kOnly])) [101, 102] [101, 102] rfl rfl (by decide) (fun _ h => h) (fun k h1 h2 => absurd h1 h2) rfl rfl Tryz.call33 ⟨rfl, rfl, trivial⟩ rfl rfl rfl rfl w3 ?_|refine zbE (f := 33) (xR (V ++ [txJ s.csv] ++ [txJ s.key] ++ [txJ s.attr] ++ [listJ (s.only.map txJ)]) (K ++ [kCsv] ++ [kKey] ++ [kAttr] ++ [kOnly])) (xR (V ++ [txJ s.csv] ++ [txJ s.key] ++ [txJ s.attr] ++ [listJ (s.only.map txJ)] ++ [listJ (s.notl.map txJ)]) (K ++ [kCsv] ++ [kKey] ++ [kAttr] ++ [kOnly] ++ [kNot])) [101, 102] [101, 102] rfl rfl (by decide) (fun _ h => h) (fun k h1 h2 => absurd h1 h2) rfl rfl Tryz.call33 ⟨rfl, rfl, trivial⟩ rfl rfl rfl rfl w4 ?_|refine zbE (f := 33) (xR (V ++ [txJ s.csv] ++ [txJ s.key] ++ [txJ s.attr] ++ [listJ (s.only.map txJ)] ++ [listJ (s.notl.map txJ)]) (K ++ [kCsv] ++ [kKey] ++ [kAttr] ++ [kOnly] ++ [kNot])) (xR (V ++ [txJ s.csv] ++ [txJ s.key] ++ [txJ s.attr] ++ [listJ (s.only.map txJ)] ++ [listJ (s.notl.map txJ)] ++ [boolJ s.texts]) (K ++ [kCsv] ++ [kKey] ++ [kAttr] ++ [kOnly] ++ [kNot] ++ [kTexts])) [101, 102] [101, 102] rfl rfl (by decide) (fun _ h => h) (fun k h1 h2 => absurd h1 h2) rfl rfl Tryz.call33 ⟨rfl, rfl, trivial⟩ rfl rfl rfl rfl w5 ?_|refine zbE (f := 33) (xR (V ++ [txJ s.csv] ++ [txJ s.key] ++ [txJ s.attr] ++ [listJ (s.only.map txJ)] ++ [listJ (s.notl.map txJ)] ++ [boolJ s.texts]) (K ++ [kCsv] ++ [kKey] ++ [kAttr] ++ [kOnly] ++ [kNot] ++ [kTexts])) (xR (V ++ [txJ s.csv] ++ [txJ s.key] ++ [txJ s.attr] ++ [listJ (s.only.map txJ)] ++ [listJ (s.notl.map txJ)] ++ [boolJ s.texts] ++ [boolJ s.drop]) (K ++ [kCsv] ++ [kKey] ++ [kAttr] ++ [kOnly] ++ [kNot] ++ [kTexts] ++ [kDrop])) [101, 102] [101, 102] rfl rfl (by decide) (fun _ h => h) (fun k h1 h2 => absurd h1 h2) rfl rfl Tryz.call33 ⟨rfl, rfl, trivial⟩ rfl rfl rfl rfl w6 ?_|with_reducible (first |refine zaK ?_|refine zaj ?_|refine zaL ?_|refine zaB ?_|refine zaO ?_|refine zaD ?_|refine zaC ?_|refine zar ?_|refine zaq ?_|refine zaI ?_|refine zaE ?_|refine zas ?_|refine zaH ?_)|refine zaw rfl rfl True.intro ?_|refine zau rfl rfl rfl ?_|refine zao rfl rfl rfl ?_|refine zag rfl rfl rfl rfl True.intro ?_|refine zaF rfl ?_|refine zat rfl ?_|((first |refine zal rfl ?_ ?_|refine zan rfl ?_ ?_|refine zak rfl ?_ ?_|refine zam rfl ?_ ?_|refine zap rfl ?_ ?_|refine zaA rfl ?_ ?_|refine zad rfl rfl ?_ ?_|refine zae rfl rfl ?_ ?_|refine zaf rfl rfl ?_ ?_|refine zac rfl rfl ?_ ?_|refine zab rfl rfl ?_ ?_)<;>intro<;>try (first |contradiction|(exfalso;omega)))|((first |refine zaw rfl rfl ?_ ?_|refine zag rfl rfl rfl rfl ?_ ?_|refine zaM rfl rfl ?_ ?_|refine zaJ rfl ?_ ?_|refine zaG rfl rfl rfl rfl ?_ ?_);focus (first |omega|exact le_ rfl|((repeat first |rw [zay]|rw [wi6_]|rw [wi3_]|rw [zai]|rw [zah]);(repeat' refine And.intro ?_ ?_)<;>omega)|((repeat' refine And.intro ?_ ?_)<;>first |omega|rfl|exact Nat.le_refl _|exact le_ rfl|exact zaa _)|(simp_all;done)|(simp_all;omega)))|refine zaP rfl ?_|refine zaz rfl ?_|with_reducible refine ⟨by kernel_rfl, ?_⟩|refine zcV rfl ?_|refine zdl rfl ?_|((with_reducible refine zaN ?_);(fail_if_success (refine zax true rfl rfl rfl ?_));(fail_if_success (refine zax false rfl rfl rfl ?_));refine zav rfl rfl (fun _ => ?_) (fun _ => ?_)))
    all_goals first
      | exact .of_eq rfl
      | trace_state

def codeR (s : List UInt8) (i : Int) : Int × Int × Int :=
  if (fourG s 4 0 i).2.2 = 0 then
    (if 56320 ≤ (fourG s 4 0 i).1 ∧ (fourG s 4 0 i).1 < 57344 then (0, 0, 3)
    else if (fourG s 4 0 i).1 < 55296 ∨ 57344 ≤ (fourG s 4 0 i).1 then ((fourG s 4 0 i).1, i + 4, 0)
    else if i + 4 < s.length then
      (if at' s (i + 4) = 92 then
        (if i + 5 < s.length then
          (if at' s (i + 5) = 117 then
            (if (fourG s 4 0 (i + 6)).2.2 = 0 then
              (if (fourG s 4 0 (i + 6)).1 < 56320 ∨ 57344 ≤ (fourG s 4 0 (i + 6)).1 then (0, 0, 3) else (pairF (fourG s 4 0 i).1 (fourG s 4 0 (i + 6)).1, i + 10, 0))
            else (0, 0, (fourG s 4 0 (i + 6)).2.2))
          else (0, 0, 3))
        else (0, 0, 2))
      else (0, 0, 3))
    else (0, 0, 2))
  else (0, 0, (fourG s 4 0 i).2.2)

end Go.Proofs.YtcajofhafpkbdaaGreatDoor.Flow
