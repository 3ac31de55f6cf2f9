/- The texts H20, T11, H21, one behind the other. -/
import Derived.Test.YtkkaamhocpmhkaaGreatDoorJJ9
import Derived.Test.YtkkaamhocpmhkaaGreatDoorJJ23
import Derived.Test.YtkkaamhocpmhkaaGreatDoorJJ25
namespace Go.Proofs.YtkkaamhocpmhkaaGreatDoor.Flow
open Go
theorem idxI_hit {n : List UInt8} : ∀ {l : List (List UInt8)} {i : Nat}, i < l.length → n ∉ l.take i → l.getD i [] = n → Csv.idxI n l = (i : Int)
  | [], i, h, _, _ => absurd h (Nat.not_lt_zero _)
  | a :: r, 0, _, _, h => by
    rw [Csv.idxI, if_pos (show a = n from h)]
    rfl
  | a :: r, i + 1, h, h2, h3 => by
    rw [List.take_succ_cons, List.mem_cons, not_or] at h2
    rw [List.getD_cons_succ] at h3
    have ih := idxI_hit (n := n) (l := r) (i := i) (by simpa using h) h2.2 h3
    rw [Csv.idxI, if_neg (fun q => h2.1 q.symm), ih, if_neg (by omega)]
    omega
theorem zjU {rows : List (List Tx)} {k i : Nat} (h : i + 1 < rows.length) : (keysR rows k).getD i [] = (rows.getD (i + 1) []).getD k [] := by
  unfold keysR
  rw [List.getD_eq_getElem?_getD, List.getElem?_map, List.getElem?_drop, show 1 + i = i + 1 by omega, List.getElem?_eq_getElem h]
  simp [List.getD_eq_getElem?_getD, h]
theorem ziJ {β : Type} (p : Nat → Bool) (g : Nat → Option β) (i : Nat) : ((List.range (i + 1)).filter p).filterMap g = ((List.range i).filter p).filterMap g ++ (if p i = true then (g i).toList else []) := by
  rw [List.range_succ, List.filter_append, List.filterMap_append]
  congr 1
  by_cases h : p i = true
  · rw [if_pos h]
    rw [List.filter_cons_of_pos h]
    cases hq : g i <;> simp [hq]
  · rw [if_neg h]
    rw [List.filter_cons_of_neg h]
    rfl
theorem zoG {rows : List (List Tx)} {j : JnR} {key : Tx} {n : Nat} (h1 : n + 1 < rows.length) (h2 : key ∉ (keysR rows (colK rows j)).take n) (h3 : cellR rows (n + 1) (colK rows j) = key) : rowV rows j key = (attsJ rows j (n + 1), true) := by
  have e : Csv.idxI key (keysR rows (colK rows j)) = (n : Int) := idxI_hit (by rw [zbL]; omega) h2 (by rw [zjU h1]; exact h3)
  unfold rowV
  rw [e, if_neg (by omega), Int.toNat_natCast]
theorem znz {rows : List (List Tx)} {j : JnR} {key : Tx} {n : Nat} (h1 : rows.length - 1 ≤ n) (h2 : key ∉ (keysR rows (colK rows j)).take n) : rowV rows j key = ([], false) := by
  rw [List.take_of_length_le (by rw [zbL]; exact h1)] at h2
  have := (zbO key (keysR rows (colK rows j))).1
  unfold rowV
  rw [if_pos (by
    by_cases h : Csv.idxI key (keysR rows (colK rows j)) < 0
    · exact h
    · exact absurd (this (by omega)) h2)]
set_option maxRecDepth 100000 in
set_option maxHeartbeats 16000000 in
theorem zjw (rows : List (List Tx)) (j : JnR) (key : Tx) (n : Nat) (hT : RightT n rows j) (hn : n ≤ 700) (h1 : j.only.length ≤ 4194304) (h2 : j.notl.length ≤ 4194304) : Ctr Tryz.prog 14 [.sl 1 rows.length (Csv.tabF rows), .ag (jnP j), .s key] (.tu [.sl 4 (rowV rows j key).1.length (atrF (rowV rows j key).1), .b (rowV rows j key).2]) := by
  obtain ⟨few, some1, good, hkey, hnames⟩ := hT
  have hnl : (namesR rows).length ≤ n + 1 := (zaI good).1
  have hnm : (namesR rows).length = (rows.getD 0 []).length := rfl
  have cC := Csv.rcolumn_ctr rows j.key (by omega) (by omega)
  rw [zdI] at cC
  have hk0 := (zbO j.key (namesR rows)).2 hkey
  have hk1 := (zcD j.key (namesR rows)).2
  have hK : Csv.idxI j.key (namesR rows) = ((colK rows j : Nat) : Int) := by
    unfold colK
    omega
  rw [hK] at cC hk1
  rw [show max ((colK rows j : Nat) : Int) 0 = ((colK rows j : Nat) : Int) by omega] at cC
  have rH := fun n => zoG (rows := rows) (j := j) (key := key) (n := n)
  have rM := fun n => znz (rows := rows) (j := j) (key := key) (n := n)
  have kA := fun i => zjU (rows := rows) (k := colK rows j) (i := i)
  have kL := zbL rows (colK rows j)
  unfold cellR at rH
  generalize rowV rows j key = R at *
  generalize keysR rows (colK rows j) = ks at *
  generalize colK rows j = kk at *
  refine zax Tryz.func14 rfl Tryz.ntmps14 Tryz.results14 rfl rfl fun X hL hX => ?_
  clear hkey hnames hK hk0
  repeat' (first |refine zae (f := 43) rfl rfl Tryz.call43 rfl cC ?_|with_reducible (first |refine zah ?_|refine zaa ?_|refine zag ?_|refine zad ?_|refine zaf ?_)|refine zab rfl rfl True.intro ?_|((first |refine zab rfl rfl ?_ ?_|refine zav rfl rfl ?_ ?_);focus (first |exact le_ rfl|((repeat' refine And.intro ?_ ?_)<;>omega)|((repeat' refine And.intro ?_ ?_)<;>first |rfl)))|fail)
  refine T.loop hL (fun m : Nat => [(0, .sl 1 rows.length (Csv.tabF rows)), (2, .s key), (4, .pv 4 0), (8, .i .i64 (kk : Nat)), (10, .i .i64 ((m + 1 : Nat) : Int))]) (fun _ => [(4, .var (jnP j))])
    (fun m => m + 1 ≤ rows.length ∧ key ∉ ks.take m) (fun m => rows.length - m) 0 ⟨by omega, by rw [List.take_zero]; exact List.not_mem_nil⟩
    ⟨⟨rfl, rfl, rfl, rfl, rfl, trivial⟩, ⟨rfl, trivial⟩, rfl, by rw [hX]; simp⟩ ?_
  rintro m ⟨g1, g2⟩
  try dsimp only at g1 g2 ⊢
  have hnat : ((m + 1 : Nat) : Int).toNat = m + 1 := Int.toNat_natCast _
  by_cases hi : m + 1 < rows.length
  rotate_left
  · have hi' : ¬ ((m + 1 : Nat) : Int) < (rows.length : Int) := by omega
    rw [rM m (by omega) g2]
    dsimp only
    repeat' (first |with_reducible (first |refine zah ?_|refine zaa ?_|refine zag ?_|refine zad ?_|refine zan ?_|refine zat ?_|refine zas ?_)|refine zab rfl rfl True.intro ?_|((first |refine zac rfl ?_ ?_)<;>intro<;>try (first |(exfalso;omega)))|refine zaB rfl ?_|refine zbN rfl (.tu2 (.nil 4 _) (.refl _))|fail)
    all_goals rfl
  have hi' : ((m + 1 : Nat) : Int) < (rows.length : Int) := by omega
  have hrow := (good (m + 1) hi).1
  have hlenr : (rows.getD ((m + 1 : Nat) : Int).toNat []).length = (rows.getD 0 []).length := by rw [hnat]; exact hrow
  have bK : ((kk : Nat) : Int) < ((rows.getD ((m + 1 : Nat) : Int).toNat []).length : Int) := by omega
  have ht := kA m hi
  by_cases hm : (rows.getD (m + 1) []).getD kk [] = key
  rotate_left
  · have hm' : ¬ ((rows.getD ((m + 1 : Nat) : Int).toNat []).getD ((kk : Nat) : Int).toNat [] == key) = true := by
      rw [hnat, Int.toNat_natCast]
      exact fun q => hm (beq_iff_eq.1 q)
    have g3 : key ∉ ks.take (m + 1) := by
      rw [zcI (by rw [kL]; omega), List.mem_append, List.mem_singleton, ht]
      exact fun q => q.elim g2 fun q => hm q.symm
    clear g2 rH rM
    repeat' (first |with_reducible (first |refine zah ?_|refine zaa ?_|refine zag ?_|refine zad ?_|refine zai ?_|refine zat ?_|refine zaf ?_|refine zas ?_)|refine zab rfl rfl True.intro ?_|((first |refine zac rfl ?_ ?_|refine zaS rfl ?_ ?_)<;>intro<;>try (first |contradiction))|((first |refine zab rfl rfl ?_ ?_);focus (first |omega|exact le_ rfl|((repeat' refine And.intro ?_ ?_)<;>omega)))|refine zaB rfl ?_|fail)
    all_goals first
      | exact ⟨m + 1, ⟨by omega, g3⟩, by omega, ⟨rfl, rfl, rfl, rfl, rfl, trivial⟩, ⟨rfl, trivial⟩, rfl, by rw [hX]; simp⟩
      | (exfalso; omega)
      | trace_state
  have hm' : ¬ ((rows.getD ((m + 1 : Nat) : Int).toNat []).getD ((kk : Nat) : Int).toNat [] == key) = false := by
    rw [hnat, Int.toNat_natCast]
    exact fun q => beq_eq_false_iff_ne.1 q hm
  rw [rH m hi g2 hm]
  unfold attsJ colsR
  rw [hnm]
  clear g2 rH rM
  dsimp only
  repeat' (first |refine T.adopt 11 11 47 4 (atrF []) rfl rfl ?_|with_reducible (first |refine zah ?_|refine zaa ?_|refine zag ?_|refine zad ?_|refine zai ?_|refine zaf ?_)|refine zab rfl rfl True.intro ?_|((first |refine zac rfl ?_ ?_|refine zaS rfl ?_ ?_)<;>intro<;>try (first |contradiction))|((first |refine zab rfl rfl ?_ ?_);focus (first |omega|exact le_ rfl|((repeat' refine And.intro ?_ ?_)<;>omega)))|fail)
  refine T.loop hL (fun x : Nat × List AtR => [(0, .sl 1 rows.length (Csv.tabF rows)), (4, .pv 4 0), (10, .i .i64 ((m + 1 : Nat) : Int)), (11, .gs 11 4 x.2.length (atrF x.2)), (12, .i .i64 x.1)]) (fun x => [(4, .var (jnP j)), (11, .row 47 4 x.2.length)])
    (fun x => x.1 ≤ (rows.getD 0 []).length ∧ x.2.length ≤ x.1 ∧ x.2 = ((List.range x.1).filter (fun i => joinedP j ((namesR rows).getD i []))).filterMap (attAt rows j (m + 1))) (fun x => (rows.getD 0 []).length - x.1) (0, []) ⟨Nat.zero_le _, Nat.le_refl _, rfl⟩
    ⟨⟨rfl, rfl, rfl, rfl, rfl, trivial⟩, ⟨rfl, rfl, trivial⟩, rfl, by rw [hX]; simp⟩ ?_
  rintro ⟨i, out⟩ ⟨f1, f2, f3⟩
  try dsimp only at f1 f2 f3 ⊢
  have inat : (i : Int).toNat = i := Int.toNat_natCast i
  by_cases hil : i < (rows.getD 0 []).length
  rotate_left
  · have hil' : ¬ (i : Int) < ((rows.getD (Int.toNat 0) []).length : Int) := by
      show ¬ (i : Int) < ((rows.getD 0 []).length : Int)
      omega
    rw [show i = (rows.getD 0 []).length by omega] at f3
    rw [← f3]
    repeat' (first |with_reducible (first |refine zah ?_|refine zaa ?_|refine zag ?_|refine zad ?_|refine zan ?_|refine zat ?_|refine zas ?_|refine zam ?_|refine zaz ?_)|refine zab rfl rfl True.intro ?_|((first |refine zac rfl ?_ ?_)<;>intro<;>try (first |(exfalso;omega)))|((first |refine zab rfl rfl ?_ ?_);focus (first |omega|exact le_ rfl|((repeat' refine And.intro ?_ ?_)<;>omega)))|refine zaB rfl ?_|refine zaq rfl ?_|fail)
    all_goals rfl
  have hil' : (i : Int) < ((rows.getD (Int.toNat 0) []).length : Int) := by
    show (i : Int) < ((rows.getD 0 []).length : Int)
    omega
  have hil2 : (i : Int) < ((rows.getD ((m + 1 : Nat) : Int).toNat []).length : Int) := by omega
  have hx := ziJ (fun x => joinedP j ((namesR rows).getD x [])) (attAt rows j (m + 1)) i
  rw [← f3] at hx
  have hat : attAt rows j (m + 1) i = if (typedF ((rows.getD ((m + 1 : Nat) : Int).toNat []).getD (i : Int).toNat []) j.texts).2 = true then some (((rows.getD (Int.toNat 0) []).getD (i : Int).toNat []), (typedF ((rows.getD ((m + 1 : Nat) : Int).toNat []).getD (i : Int).toNat []) j.texts).1) else none := by
    rw [hnat, inat]
    rfl
  have hcell : ((rows.getD ((m + 1 : Nat) : Int).toNat []).getD (i : Int).toNat []).length ≤ n := by
    rw [hnat]
    exact zev good hi
  have c := zfQ ((rows.getD ((m + 1 : Nat) : Int).toNat []).getD (i : Int).toNat []) (by omega) j.texts
  rw [hat] at hx
  clear hat hcell
  generalize typedF ((rows.getD ((m + 1 : Nat) : Int).toNat []).getD (i : Int).toNat []) j.texts = tv at c hx
  obtain ⟨v, b⟩ := tv
  have cJ := zdH ((rows.getD (Int.toNat 0) []).getD (i : Int).toNat []) j h1 h2
  have hjj : joinedP j ((rows.getD (Int.toNat 0) []).getD (i : Int).toNat []) = joinedP j ((namesR rows).getD i []) := by rw [inat]; rfl
  rw [hjj] at cJ
  cases b with
  | false =>
    replace hx : ((List.range (i + 1)).filter fun x => joinedP j ((namesR rows).getD x [])).filterMap (attAt rows j (m + 1)) = out := by
      rw [hx]
      simp
    repeat' (first |refine zae (f := 44) rfl rfl Tryz.call44 rfl c ?_|with_reducible (first |refine zah ?_|refine zaa ?_|refine zag ?_|refine zad ?_|refine zai ?_|refine zaf ?_|refine zao ?_|refine zaC ?_)|refine zab rfl rfl True.intro ?_|refine zap rfl rfl rfl ?_|refine zal rfl ?_|((first |refine zac rfl ?_ ?_)<;>intro<;>try (first |(exfalso;omega)))|((first |refine zab rfl rfl ?_ ?_|refine zav rfl rfl ?_ ?_|refine zaH rfl ?_ ?_);focus (first |omega|exact le_ rfl|((repeat' refine And.intro ?_ ?_)<;>omega)|((repeat' refine And.intro ?_ ?_)<;>first |rfl|exact Nat.le_refl _)))|with_reducible refine ⟨by kernel_rfl, ?_⟩|fail)
    all_goals first
      | exact ⟨(i + 1, out), ⟨by dsimp only; omega, by dsimp only; omega, by dsimp only; exact hx.symm⟩, by dsimp only; omega, ⟨rfl, rfl, rfl, rfl, rfl, trivial⟩, ⟨rfl, rfl, trivial⟩, rfl, by rw [hX]; simp⟩
      | (exfalso; omega)
      | trace_state
  | true =>
    rw [if_pos rfl] at hx
    cases hj : joinedP j ((namesR rows).getD i []) with
    | false =>
      rw [hj] at cJ
      rw [if_neg (by rw [hj]; exact Bool.false_ne_true), List.append_nil] at hx
      repeat' (first |refine zae (f := 44) rfl rfl Tryz.call44 rfl c ?_|refine zaw (f := 45) rfl rfl rfl rfl Tryz.call45 rfl cJ ?_|with_reducible (first |refine zah ?_|refine zaa ?_|refine zag ?_|refine zad ?_|refine zai ?_|refine zaf ?_|refine zao ?_|refine zaC ?_)|refine zab rfl rfl True.intro ?_|refine zaj rfl rfl rfl rfl True.intro ?_|refine zal rfl ?_|((first |refine zac rfl ?_ ?_)<;>intro<;>try (first |(exfalso;omega)))|((first |refine zab rfl rfl ?_ ?_|refine zaj rfl rfl rfl rfl ?_ ?_|refine zav rfl rfl ?_ ?_|refine zaH rfl ?_ ?_);focus (first |omega|exact le_ rfl|((repeat' refine And.intro ?_ ?_)<;>omega)|((repeat' refine And.intro ?_ ?_)<;>first |rfl|exact Nat.le_refl _)))|with_reducible refine ⟨by kernel_rfl, ?_⟩|fail)
      all_goals first
        | exact ⟨(i + 1, out), ⟨by dsimp only; omega, by dsimp only; omega, by dsimp only; exact hx.symm⟩, by dsimp only; omega, ⟨rfl, rfl, rfl, rfl, rfl, trivial⟩, ⟨rfl, rfl, trivial⟩, rfl, by rw [hX]; simp⟩
        | (exfalso; omega)
        | trace_state
    | true =>
      rw [hj] at cJ
      rw [if_pos hj] at hx
      repeat' (first |refine zae (f := 44) rfl rfl Tryz.call44 rfl c ?_|refine zaw (f := 45) rfl rfl rfl rfl Tryz.call45 rfl cJ ?_|with_reducible (first |refine zah ?_|refine zaa ?_|refine zag ?_|refine zad ?_|refine zai ?_|refine zaf ?_|refine zao ?_|refine zaC ?_)|refine zab rfl rfl True.intro ?_|refine zaj rfl rfl rfl rfl True.intro ?_|refine zau rfl ?_|((first |refine zac rfl ?_ ?_)<;>intro<;>try (first |(exfalso;omega)))|((first |refine zab rfl rfl ?_ ?_|refine zaj rfl rfl rfl rfl ?_ ?_|refine zav rfl rfl ?_ ?_|refine zaH rfl ?_ ?_);focus (first |omega|exact le_ rfl|((repeat' refine And.intro ?_ ?_)<;>omega)|((repeat' refine And.intro ?_ ?_)<;>first |omega|rfl|exact Nat.le_refl _)))|with_reducible refine ⟨by kernel_rfl, ?_⟩|fail)
      all_goals first
        | exact ⟨(i + 1, out ++ [(((rows.getD (Int.toNat 0) []).getD (i : Int).toNat []), v)]), ⟨by dsimp only; omega, by dsimp only; rw [List.length_append]; simp; omega, by dsimp only; exact hx.symm⟩, by dsimp only; omega, ⟨rfl, rfl, rfl, zmw 11 out (((rows.getD (Int.toNat 0) []).getD (i : Int).toNat []), v) _ rfl, rfl, trivial⟩, ⟨rfl, by rw [List.length_append]; rfl, trivial⟩, rfl, by rw [hX]; simp⟩
        | (exfalso; omega)
        | trace_state

set_option maxHeartbeats 2000000 in
theorem zeC (b : Nat) (hb : b < 18446744073709551616) : Ctr Tryz.prog 90 [.i .u64 (b : Nat)] (.tu [.i .i64 (wNum (singleF b)).1, .b (wNum (singleF b)).2]) := by
  have kx : IntKind.i64.wrap ((b : Int) / 8388608 % 256) = ((b / 8388608 % 256 : Nat) : Int) := by
    rw [wi6_]
    omega
  by_cases hx : b / 8388608 % 256 = 255
  · rw [zgg hx]
    show Ctr _ _ _ (.tu [.i .i64 0, .b false])
    rw [hx] at kx
    clear hx
    refine zax Tryz.func90 rfl Tryz.ntmps90 Tryz.results90 rfl rfl fun X hL hX => ?_
    repeat' (first |with_reducible (first |refine zah ?_|refine zaa ?_|refine zag ?_|refine zad ?_|refine zan ?_|refine zam ?_)|refine zab rfl rfl True.intro ?_|((first |refine zac rfl ?_ ?_)<;>intro<;>try (first |(exfalso;omega)))|((first |refine zab rfl rfl ?_ ?_);focus (first |omega|((repeat first |rw [zar]);(repeat' refine And.intro ?_ ?_)<;>omega)))|refine zaq rfl ?_|fail)
    all_goals rfl
  · have hR0 : singleF b = (whF (hv (mS b) (eS b))).map fun n => if 2147483648 ≤ b then -(n : Int) else n := by
      unfold singleF
      rw [if_neg hx]
      cases whF (hv (mS b) (eS b)) <;> rfl
    rw [hR0]
    generalize hR : wNum ((whF (hv (mS b) (eS b))).map fun n => if 2147483648 ≤ b then -(n : Int) else n) = R
    have hmS : mS b < 16777216 := by unfold mS; split <;> omega
    have heS : -149 ≤ eS b ∧ eS b ≤ 105 := by unfold eS; split <;> omega
    have st : ∀ x : Nat, b / 8388608 % 256 = x → (x = 0 → mS b = b % 8388608 ∧ eS b = -149) ∧ (¬ x = 0 → mS b = b % 8388608 + 8388608 ∧ eS b = (x : Int) - 150) := fun x hx => by
      subst hx
      unfold mS eS
      exact ⟨fun h => by rw [if_pos h, if_pos h]; exact ⟨rfl, rfl⟩, fun h => by rw [if_neg h, if_neg h]; exact ⟨rfl, rfl⟩⟩
    obtain ⟨s0, s1⟩ := st _ rfl
    clear st
    have hx8 : b / 8388608 % 256 < 256 := by omega
    have hw : IntKind.u64.wrap ((b : Int) % 8388608 + 8388608) = ((b % 8388608 + 8388608 : Nat) : Int) := by
      rw [zar]
      omega
    generalize mS b = m0 at *
    generalize eS b = e0 at *
    generalize hX0 : b / 8388608 % 256 = x at *
    clear hR0 hX0
    refine zax Tryz.func90 rfl Tryz.ntmps90 Tryz.results90 rfl rfl fun X hL hX => ?_
    repeat' (first |with_reducible (first |refine zah ?_|refine zaa ?_|refine zag ?_|refine zad ?_|refine zai ?_|refine zaf ?_)|refine zab rfl rfl True.intro ?_|((first |refine zac rfl ?_ ?_)<;>intro<;>try (first |(exfalso;omega)))|((first |refine zab rfl rfl ?_ ?_);focus (first |omega|((repeat first |rw [zar]);(repeat' refine And.intro ?_ ?_)<;>omega)))|fail)
    all_goals
      refine T.loop hL (fun y : Nat × Int => [(0, .i .u64 (b : Nat)), (5, .i .u64 (y.1 : Nat)), (6, .i .i64 y.2)]) (fun _ => []) (fun y => hv y.1 y.2 = hv m0 e0 ∧ y.1 < 16777216 ∧ -149 ≤ y.2 ∧ y.2 ≤ 200) (fun y => y.1) (m0, e0)
        ⟨rfl, hmS, heS.1, by dsimp only; omega⟩ ⟨⟨rfl, by
          first
            | exact congrArg (D.i .u64) (by rw [hw, (s1 (by omega)).1])
            | exact congrArg (D.i .u64) (by rw [(s0 (by omega)).1]; dsimp only; omega), by
          first
            | exact congrArg (D.i .i64) (by rw [kx, (s1 (by omega)).2])
            | exact congrArg (D.i .i64) (by rw [(s0 (by omega)).2]), trivial⟩, trivial, rfl, by rw [hX]; intro k hk; cases hk⟩ ?_
      rintro ⟨m, e⟩ ⟨g1, g2, g3, g4⟩
      dsimp only at g1 g2 g3 g4 ⊢
      by_cases hc : e < 0 ∧ m % 2 = 0 ∧ 0 < m
      · have hst := zhm hc
        rw [g1] at hst
        clear g1 hR
        repeat' (first |with_reducible (first |refine zah ?_|refine zaa ?_|refine zag ?_|refine zad ?_|refine zai ?_|refine zaf ?_|refine zao ?_)|refine zab rfl rfl True.intro ?_|refine zaj rfl rfl rfl rfl True.intro ?_|((first |refine zac rfl ?_ ?_|refine zak rfl rfl ?_ ?_)<;>intro<;>try (first |(exfalso;omega)))|((first |refine zab rfl rfl ?_ ?_|refine zaj rfl rfl rfl rfl ?_ ?_);focus (first |omega|((repeat first |rw [zar]);(repeat' refine And.intro ?_ ?_)<;>omega)))|fail)
        exact ⟨(m / 2, e + 1), ⟨hst.symm, by dsimp only; omega, by dsimp only; omega, by dsimp only; omega⟩, by dsimp only; omega, ⟨rfl, congrArg (D.i .u64) (by dsimp only; omega), rfl, trivial⟩, trivial, rfl, by rw [hX]; intro k hk; cases hk⟩
      · rw [zci hc] at g1
        rw [← g1] at hR
        clear g1
        by_cases h0 : m = 0
        · subst h0
          have hz : (whF (0, e)).map (fun n => if 2147483648 ≤ b then -(n : Int) else n) = some 0 := by
            rw [zgH]
            show some (if 2147483648 ≤ b then -((0 : Nat) : Int) else ((0 : Nat) : Int)) = _
            split <;> rfl
          rw [hz] at hR
          subst hR
          clear hz
          repeat' (first |with_reducible (first |refine zah ?_|refine zaa ?_|refine zag ?_|refine zad ?_|refine zat ?_|refine zaf ?_|refine zas ?_)|refine zab rfl rfl True.intro ?_|refine zap rfl rfl rfl ?_|refine zaj rfl rfl rfl rfl True.intro ?_|refine zal rfl ?_|((first |refine zak rfl rfl ?_ ?_)<;>intro)|refine zaB rfl ?_|fail)
          all_goals
            refine T.loop hL (fun _ : Unit => [(0, .i .u64 (b : Nat)), (5, .i .u64 0), (6, .i .i64 e)]) (fun _ => []) (fun _ => True) (fun _ => 0) () trivial ⟨⟨rfl, rfl, rfl, trivial⟩, trivial, rfl, by rw [hX]; intro k hk; cases hk⟩ ?_
            intro _ _
            repeat' (first |with_reducible (first |refine zah ?_|refine zaa ?_|refine zag ?_|refine zad ?_|refine zan ?_|refine zai ?_|refine zat ?_|refine zas ?_|refine zam ?_)|refine zab rfl rfl True.intro ?_|refine zap rfl rfl rfl ?_|refine zaj rfl rfl rfl rfl True.intro ?_|refine zal rfl ?_|((first |refine zac rfl ?_ ?_|refine zak rfl rfl ?_ ?_)<;>intro<;>try (first |(exfalso;omega)))|((first |refine zab rfl rfl ?_ ?_);focus (first |((repeat first |rw [wi6_]);(repeat' refine And.intro ?_ ?_)<;>omega)))|refine zaB rfl ?_|refine zaq rfl ?_|fail)
            all_goals rfl
        · by_cases h1 : e < 0
          · rw [ziH h0 h1] at hR
            subst hR
            repeat' (first |with_reducible (first |refine zah ?_|refine zaa ?_|refine zag ?_|refine zad ?_|refine zat ?_|refine zaf ?_|refine zas ?_)|refine zab rfl rfl True.intro ?_|refine zaj rfl rfl rfl rfl True.intro ?_|((first |refine zac rfl ?_ ?_|refine zak rfl rfl ?_ ?_)<;>intro<;>try (first |(exfalso;omega)))|((first |refine zaj rfl rfl rfl rfl ?_ ?_);focus (first |omega|((repeat' refine And.intro ?_ ?_)<;>omega)))|refine zaB rfl ?_|fail)
            all_goals
              refine T.loop hL (fun _ : Unit => [(0, .i .u64 (b : Nat)), (5, .i .u64 (m : Nat)), (6, .i .i64 e)]) (fun _ => []) (fun _ => True) (fun _ => 0) () trivial ⟨⟨rfl, rfl, rfl, trivial⟩, trivial, rfl, by rw [hX]; intro k hk; cases hk⟩ ?_
              intro _ _
              repeat' (first |with_reducible (first |refine zah ?_|refine zaa ?_|refine zag ?_|refine zad ?_|refine zan ?_|refine zat ?_|refine zas ?_|refine zam ?_)|refine zab rfl rfl True.intro ?_|refine zap rfl rfl rfl ?_|refine zaj rfl rfl rfl rfl True.intro ?_|refine zal rfl ?_|((first |refine zac rfl ?_ ?_|refine zak rfl rfl ?_ ?_)<;>intro<;>try (first |(exfalso;omega)))|refine zaB rfl ?_|refine zaq rfl ?_|fail)
              all_goals rfl
          · have hbig : 9007199254740992 < m * 2 ^ e.toNat → R = (0, false) := fun h => by
              rw [← hR, zgo h0 h1 h]
              rfl
            have hok : ¬ 9007199254740992 < m * 2 ^ e.toNat → R = wNum (some (if 2147483648 ≤ b then -((m * 2 ^ e.toNat : Nat) : Int) else ((m * 2 ^ e.toNat : Nat) : Int))) := fun h => by
              rw [← hR, zlN h0 h1 h]
              rfl
            clear hR
            repeat' (first |with_reducible (first |refine zah ?_|refine zaa ?_|refine zag ?_|refine zad ?_|refine zat ?_|refine zaf ?_|refine zas ?_)|refine zab rfl rfl True.intro ?_|refine zap rfl rfl rfl ?_|refine zal rfl ?_|((first |refine zak rfl rfl ?_ ?_)<;>intro<;>try (first |(exfalso;omega)))|refine zaB rfl ?_|fail)
            all_goals
              refine T.loop hL (fun y : Nat × Int => [(0, .i .u64 (b : Nat)), (5, .i .u64 (y.1 : Nat)), (6, .i .i64 y.2)]) (fun _ => []) (fun y => 0 < y.1 ∧ y.1 ≤ 18014398509481984 ∧ 0 ≤ y.2 ∧ y.2 ≤ 1000 ∧ y.1 * 2 ^ y.2.toNat = m * 2 ^ e.toNat) (fun y => y.2.toNat) (m, e)
                ⟨by dsimp only; omega, by dsimp only; omega, by dsimp only; omega, by dsimp only; omega, rfl⟩ ⟨⟨rfl, rfl, rfl, trivial⟩, trivial, rfl, by rw [hX]; intro k hk; cases hk⟩ ?_
              rintro ⟨n, i⟩ ⟨q1, q2, q3, q4, q5⟩
              dsimp only at q1 q2 q3 q4 q5 ⊢
              by_cases hc2 : 0 < i ∧ n ≤ 9007199254740992
              · have hup := zpG q5 hc2.1
                have hw2 : IntKind.u64.wrap (2 * (n : Int)) = ((2 * n : Nat) : Int) := by
                  rw [zar]
                  omega
                clear hbig hok q5
                repeat' (first |with_reducible (first |refine zah ?_|refine zaa ?_|refine zag ?_|refine zad ?_|refine zai ?_|refine zaf ?_|refine zao ?_)|refine zab rfl rfl True.intro ?_|refine zaj rfl rfl rfl rfl True.intro ?_|((first |refine zac rfl ?_ ?_|refine zak rfl rfl ?_ ?_)<;>intro<;>try (first |(exfalso;omega)))|((first |refine zab rfl rfl ?_ ?_);focus (first |omega|((repeat' refine And.intro ?_ ?_)<;>omega)))|fail)
                exact ⟨(2 * n, i - 1), ⟨by dsimp only; omega, by dsimp only; omega, by dsimp only; omega, by dsimp only; omega, hup⟩, by dsimp only; omega, ⟨rfl, congrArg (D.i .u64) hw2, rfl, trivial⟩, trivial, rfl, by rw [hX]; intro k hk; cases hk⟩
              · by_cases h5 : 9007199254740992 < n
                · have h6 : 9007199254740992 < m * 2 ^ e.toNat := by
                    rw [← q5]
                    have : n * 1 ≤ n * 2 ^ i.toNat := Nat.mul_le_mul_left _ (Nat.two_pow_pos _)
                    omega
                  have hbig := hbig h6
                  clear hok h6 q5
                  subst hbig
                  repeat' (first |with_reducible (first |refine zah ?_|refine zaa ?_|refine zag ?_|refine zad ?_|refine zan ?_|refine zat ?_|refine zas ?_|refine zam ?_)|refine zab rfl rfl True.intro ?_|refine zap rfl rfl rfl ?_|refine zbP rfl rfl rfl ?_|refine zaj rfl rfl rfl rfl True.intro ?_|refine zau rfl ?_|refine zal rfl ?_|((first |refine zac rfl ?_ ?_|refine zak rfl rfl ?_ ?_)<;>intro<;>try (first |(exfalso;omega)))|refine zaB rfl ?_|refine zaq rfl ?_|fail)
                  all_goals rfl
                · obtain rfl : i = 0 := by omega
                  have q6 : n = m * 2 ^ e.toNat := by
                    rw [← q5]
                    simp
                  rw [← q6] at hok
                  have hok := hok h5
                  have wn : IntKind.i64.wrap (n : Int) = n := by rw [wi6_]; omega
                  have hok1 : 2147483648 ≤ b → R = (-IntKind.i64.wrap (n : Int), true) := fun h => by rw [hok, if_pos h, wn]; rfl
                  have hok2 : ¬ 2147483648 ≤ b → R = (IntKind.i64.wrap (n : Int), true) := fun h => by rw [hok, if_neg h, wn]; rfl
                  clear hok hbig q5 q6
                  repeat' (first |with_reducible (first |refine zah ?_|refine zaa ?_|refine zag ?_|refine zad ?_|refine zan ?_|refine zai ?_|refine zat ?_|refine zas ?_|refine zam ?_)|refine zab rfl rfl True.intro ?_|refine zap rfl rfl rfl ?_|refine zaj rfl rfl rfl rfl True.intro ?_|refine zal rfl ?_|((first |refine zac rfl ?_ ?_|refine zak rfl rfl ?_ ?_)<;>intro<;>try (first |(exfalso;omega)))|((first |refine zab rfl rfl ?_ ?_);focus (first |omega|((repeat' refine And.intro ?_ ?_)<;>omega)))|refine zaB rfl ?_|refine zaq rfl ?_|fail)
                  · rw [hok1 (by omega)]
                  · rw [hok2 (by omega)]
theorem zhz (o : Option Int) (ho : ∀ n, o = some n → -9007199254740992 ≤ n ∧ n ≤ 9007199254740992) (hs : (wNum o).2 = true) :
    Ctr Tryz.prog 93 [.i .i64 (wNum o).1, .i .i64 0] (dcV (ofF (wNum o).1 0)) ∧ Ctr Tryz.prog 92 [dcV (ofF (wNum o).1 0)] (.s (wText o).1) ∧ (wText o).2 = true := by
  cases o with
  | none => cases hs
  | some n =>
    obtain ⟨h0, h1⟩ := ho n rfl
    exact ⟨zqY n 0 (by omega) (by omega), zno (ofF n 0).1 (ofF n 0).2.1 (ofF n 0).2.2 (by have := znx n 0 (by omega) (by omega); omega), rfl⟩
theorem zjN {o : Option Int} (hs : (wNum o).2 = false) : wText o = ([], false) := by
  cases o with
  | none => rfl
  | some n => cases hs
theorem zgG {b : Nat} {n : Int} (h : singleF b = some n) : -9007199254740992 ≤ n ∧ n ≤ 9007199254740992 := by
  unfold singleF at h
  split at h
  · cases h
  · split at h
    · cases h
    · rename_i k hk
      have := zps hk
      have h := Option.some.inj h
      split at h <;> omega
set_option maxHeartbeats 1000000 in
theorem zox (k : Int) (s : List UInt8) (hs : s.length ≤ 1048576) (b : Nat) (hb : b < 18446744073709551616) : Ctr Tryz.prog 46 [vlD k s (b : Nat)] (.tu [.s (keyF k s (validL s) b).1, .b (keyF k s (validL s) b).2]) := by
  have c1 := ziL k s hs b hb
  by_cases hv : valR k (validL s) b = false
  · rw [zjK hv]
    rw [hv] at c1
    clear hv
    refine zax Tryz.func46 rfl Tryz.ntmps46 Tryz.results46 rfl rfl fun X hL hX => ?_
    repeat' (first |with_reducible (first |refine zah ?_|refine zaa ?_|refine zag ?_|refine zad ?_|refine zan ?_|refine zam ?_)|refine zab rfl rfl True.intro ?_|refine zau rfl ?_|((first |refine zab rfl rfl ?_ ?_|refine zav rfl rfl ?_ ?_);focus (first |exact le_ rfl|((repeat' refine And.intro ?_ ?_)<;>omega)|((repeat' refine And.intro ?_ ?_)<;>first |rfl)))|refine zaq rfl ?_|refine zae (f := 88) rfl rfl Tryz.call88 rfl c1 ?_|fail)
    all_goals rfl
  · have hv2 : valR k (validL s) b = true := by simpa using hv
    rw [hv2] at c1
    by_cases k1 : k = 1
    · subst k1
      rw [zpS hv]
      clear hv hv2
      refine zax Tryz.func46 rfl Tryz.ntmps46 Tryz.results46 rfl rfl fun X hL hX => ?_
      repeat' (first |with_reducible (first |refine zah ?_|refine zaa ?_|refine zag ?_|refine zad ?_|refine zan ?_|refine zai ?_|refine zam ?_)|refine zab rfl rfl True.intro ?_|refine zau rfl ?_|refine zal rfl ?_|((first |refine zab rfl rfl ?_ ?_|refine zav rfl rfl ?_ ?_);focus (first |exact le_ rfl|((repeat' refine And.intro ?_ ?_)<;>omega)|((repeat' refine And.intro ?_ ?_)<;>first |rfl)))|refine zaq rfl ?_|refine zae (f := 88) rfl rfl Tryz.call88 rfl c1 ?_|fail)
      all_goals rfl
    by_cases k5 : k = 5
    · subst k5
      rw [zpz hv]
      have c2 := zcr b hb
      clear hv hv2
      refine zax Tryz.func46 rfl Tryz.ntmps46 Tryz.results46 rfl rfl fun X hL hX => ?_
      repeat' (first |with_reducible (first |refine zah ?_|refine zaa ?_|refine zag ?_|refine zad ?_|refine zan ?_|refine zai ?_|refine zam ?_)|refine zab rfl rfl True.intro ?_|refine zau rfl ?_|refine zal rfl ?_|((first |refine zab rfl rfl ?_ ?_|refine zav rfl rfl ?_ ?_);focus (first |exact le_ rfl|((repeat' refine And.intro ?_ ?_)<;>omega)|((repeat' refine And.intro ?_ ?_)<;>first |rfl)))|refine zaq rfl ?_|refine zae (f := 88) rfl rfl Tryz.call88 rfl c1 ?_|refine zae (f := 89) rfl rfl Tryz.call89 rfl c2 ?_|fail)
      all_goals rfl
    by_cases k7 : k = 7
    · subst k7
      rw [zpQ hv]
      have t1 : b = 1 → (if b = 1 then ([116, 114, 117, 101] : List UInt8) else [102, 97, 108, 115, 101]) = [116, 114, 117, 101] := fun h => if_pos h
      have t2 : ¬ b = 1 → (if b = 1 then ([116, 114, 117, 101] : List UInt8) else [102, 97, 108, 115, 101]) = [102, 97, 108, 115, 101] := fun h => if_neg h
      clear hv hv2
      generalize (if b = 1 then ([116, 114, 117, 101] : List UInt8) else [102, 97, 108, 115, 101]) = t at *
      refine zax Tryz.func46 rfl Tryz.ntmps46 Tryz.results46 rfl rfl fun X hL hX => ?_
      repeat' (first |with_reducible (first |refine zah ?_|refine zaa ?_|refine zag ?_|refine zad ?_|refine zan ?_|refine zai ?_|refine zam ?_)|refine zab rfl rfl True.intro ?_|refine zaj rfl rfl rfl rfl True.intro ?_|refine zau rfl ?_|refine zal rfl ?_|((first |refine zac rfl ?_ ?_|refine zak rfl rfl ?_ ?_)<;>intro<;>try (first |(exfalso;omega)))|((first |refine zab rfl rfl ?_ ?_|refine zaj rfl rfl rfl rfl ?_ ?_|refine zav rfl rfl ?_ ?_);focus (first |exact le_ rfl|((repeat' refine And.intro ?_ ?_)<;>omega)|((repeat' refine And.intro ?_ ?_)<;>first |rfl)))|refine zaq rfl ?_|refine zae (f := 88) rfl rfl Tryz.call88 rfl c1 ?_|fail)
      · rw [t1 (by omega)]
      · rw [t2 (by omega)]
    by_cases k2 : k = 2
    · subst k2
      rw [zpn hv]
      have hb2 := zpH hv2
      have c2 := zeC b hb
      have c3 := zhz (singleF b) (fun n h => zgG h)
      have c4 := zjN (o := singleF b)
      generalize wNum (singleF b) = N at *
      generalize wText (singleF b) = R at *
      obtain ⟨n, ok⟩ := N
      obtain ⟨t, ok2⟩ := R
      dsimp only at *
      clear hv hv2
      cases ok with
      | false =>
        obtain ⟨rfl, rfl⟩ := Prod.mk.inj (c4 rfl)
        clear c3 c4
        refine zax Tryz.func46 rfl Tryz.ntmps46 Tryz.results46 rfl rfl fun X hL hX => ?_
        repeat' (first |with_reducible (first |refine zah ?_|refine zaa ?_|refine zag ?_|refine zad ?_|refine zan ?_|refine zai ?_|refine zam ?_)|refine zab rfl rfl True.intro ?_|refine zap rfl rfl rfl ?_|refine zau rfl ?_|refine zal rfl ?_|((first |refine zab rfl rfl ?_ ?_|refine zav rfl rfl ?_ ?_);focus (first |exact le_ rfl|((repeat' refine And.intro ?_ ?_)<;>omega)|((repeat' refine And.intro ?_ ?_)<;>first |rfl)))|refine zaq rfl ?_|refine zae (f := 88) rfl rfl Tryz.call88 rfl c1 ?_|refine zae (f := 90) rfl rfl Tryz.call90 rfl c2 ?_|fail)
        all_goals rfl
      | true =>
        obtain ⟨d1, d2, rfl⟩ := c3 rfl
        clear c3 c4
        refine zax Tryz.func46 rfl Tryz.ntmps46 Tryz.results46 rfl rfl fun X hL hX => ?_
        repeat' (first |with_reducible (first |refine zah ?_|refine zaa ?_|refine zag ?_|refine zad ?_|refine zan ?_|refine zai ?_|refine zam ?_)|refine zab rfl rfl True.intro ?_|refine zap rfl rfl rfl ?_|refine zau rfl ?_|refine zal rfl ?_|((first |refine zab rfl rfl ?_ ?_|refine zav rfl rfl ?_ ?_);focus (first |exact le_ rfl|((repeat' refine And.intro ?_ ?_)<;>omega)|((repeat' refine And.intro ?_ ?_)<;>first |rfl)))|refine zaq rfl ?_|refine zae (f := 88) rfl rfl Tryz.call88 rfl c1 ?_|refine zae (f := 90) rfl rfl Tryz.call90 rfl c2 ?_|refine zae (f := 93) rfl rfl Tryz.call93 rfl d1 ?_|refine zae (f := 92) rfl rfl Tryz.call92 rfl d2 ?_|fail)
        all_goals rfl
    by_cases k3 : k = 3
    · subst k3
      rw [zpF hv]
      have c2 := zlu b hb
      have c3 := zhz (wholeF b) (fun n h => ziw h)
      have c4 := zjN (o := wholeF b)
      generalize wNum (wholeF b) = N at *
      generalize wText (wholeF b) = R at *
      obtain ⟨n, ok⟩ := N
      obtain ⟨t, ok2⟩ := R
      dsimp only at *
      clear hv hv2
      have cs : ∀ n ok, Ctr Tryz.prog 90 [.i .u64 (b : Nat)] (.tu [.i .i64 n, .b ok]) → Ctr Tryz.prog 46 [vlD 3 s (b : Nat)] (.tu [.s t, .b ok2]) := by
        intro n0 ok0 c0
        cases ok with
        | false =>
          obtain ⟨rfl, rfl⟩ := Prod.mk.inj (c4 rfl)
          clear c3 c4
          refine zax Tryz.func46 rfl Tryz.ntmps46 Tryz.results46 rfl rfl fun X hL hX => ?_
          repeat' (first |with_reducible (first |refine zah ?_|refine zaa ?_|refine zag ?_|refine zad ?_|refine zan ?_|refine zai ?_|refine zam ?_)|refine zab rfl rfl True.intro ?_|refine zap rfl rfl rfl ?_|refine zaj rfl rfl rfl rfl True.intro ?_|refine zau rfl ?_|refine zal rfl ?_|((first |refine zak rfl rfl ?_ ?_)<;>intro<;>try (first |(exfalso;omega)))|((first |refine zab rfl rfl ?_ ?_|refine zaj rfl rfl rfl rfl ?_ ?_|refine zav rfl rfl ?_ ?_);focus (first |exact le_ rfl|((repeat' refine And.intro ?_ ?_)<;>omega)|((repeat' refine And.intro ?_ ?_)<;>first |rfl)))|refine zaq rfl ?_|refine zae (f := 88) rfl rfl Tryz.call88 rfl c1 ?_|refine zae (f := 90) rfl rfl Tryz.call90 rfl c0 ?_|refine zae (f := 91) rfl rfl Tryz.call91 rfl c2 ?_|fail)
          all_goals rfl
        | true =>
          obtain ⟨d1, d2, rfl⟩ := c3 rfl
          clear c3 c4
          refine zax Tryz.func46 rfl Tryz.ntmps46 Tryz.results46 rfl rfl fun X hL hX => ?_
          repeat' (first |with_reducible (first |refine zah ?_|refine zaa ?_|refine zag ?_|refine zad ?_|refine zan ?_|refine zai ?_|refine zam ?_)|refine zab rfl rfl True.intro ?_|refine zap rfl rfl rfl ?_|refine zaj rfl rfl rfl rfl True.intro ?_|refine zau rfl ?_|refine zal rfl ?_|((first |refine zak rfl rfl ?_ ?_)<;>intro<;>try (first |(exfalso;omega)))|((first |refine zab rfl rfl ?_ ?_|refine zaj rfl rfl rfl rfl ?_ ?_|refine zav rfl rfl ?_ ?_);focus (first |exact le_ rfl|((repeat' refine And.intro ?_ ?_)<;>omega)|((repeat' refine And.intro ?_ ?_)<;>first |rfl)))|refine zaq rfl ?_|refine zae (f := 88) rfl rfl Tryz.call88 rfl c1 ?_|refine zae (f := 90) rfl rfl Tryz.call90 rfl c0 ?_|refine zae (f := 91) rfl rfl Tryz.call91 rfl c2 ?_|refine zae (f := 93) rfl rfl Tryz.call93 rfl d1 ?_|refine zae (f := 92) rfl rfl Tryz.call92 rfl d2 ?_|fail)
          all_goals rfl
      exact cs _ _ (zeC b hb)
    · rw [zpC hv k1 k2 k3 k5 k7]
      have u1 := zcr b hb
      have u2 := fun h : 9223372036854775808 ≤ b => zcr (18446744073709551616 - b) (by omega)
      have un : 9223372036854775808 ≤ b → IntKind.u64.wrap (-(b : Int)) = ((18446744073709551616 - b : Nat) : Int) := fun h => by
        rw [zar]
        omega
      by_cases hh : 9223372036854775808 ≤ b
      · have e : Lib.itoa (i64F b) = 45 :: Lib.decDigits (18446744073709551616 - b) := by
          unfold i64F
          rw [if_pos hh, (zgz _).1 (by omega), show ((b : Int) - 18446744073709551616).natAbs = 18446744073709551616 - b by omega]
        have u2 := u2 hh
        rw [← un hh] at u2
        have hl := zfv (18446744073709551616 - b) 20 (by omega) (by omega)
        rw [e]
        clear hv hv2 e un u1
        generalize Lib.decDigits (18446744073709551616 - b) = t at *
        refine zax Tryz.func46 rfl Tryz.ntmps46 Tryz.results46 rfl rfl fun X hL hX => ?_
        repeat' (first |with_reducible (first |refine zah ?_|refine zaa ?_|refine zag ?_|refine zad ?_|refine zan ?_|refine zai ?_|refine zam ?_)|refine zab rfl rfl True.intro ?_|refine zap rfl rfl rfl ?_|refine zaj rfl rfl rfl rfl True.intro ?_|refine zal rfl ?_|((first |refine zac rfl ?_ ?_|refine zak rfl rfl ?_ ?_)<;>intro<;>try (first |(exfalso;omega)))|((first |refine zab rfl rfl ?_ ?_|refine zaj rfl rfl rfl rfl ?_ ?_|refine zav rfl rfl ?_ ?_);focus (first |(simp only [List.length_cons, List.length_nil];omega)|exact le_ rfl|((repeat' refine And.intro ?_ ?_)<;>omega)|((repeat' refine And.intro ?_ ?_)<;>first |rfl)))|refine zaq rfl ?_|refine zae (f := 88) rfl rfl Tryz.call88 rfl c1 ?_|refine zae (f := 89) rfl rfl Tryz.call89 rfl u2 ?_|fail)
        all_goals rfl
      · have e : Lib.itoa (i64F b) = Lib.decDigits b := by
          unfold i64F
          rw [if_neg hh, (zgz _).2 (by omega)]
          rfl
        rw [e]
        clear hv hv2 e un u2
        refine zax Tryz.func46 rfl Tryz.ntmps46 Tryz.results46 rfl rfl fun X hL hX => ?_
        repeat' (first |with_reducible (first |refine zah ?_|refine zaa ?_|refine zag ?_|refine zad ?_|refine zan ?_|refine zai ?_)|refine zab rfl rfl True.intro ?_|refine zap rfl rfl rfl ?_|refine zaj rfl rfl rfl rfl True.intro ?_|refine zal rfl ?_|((first |refine zac rfl ?_ ?_|refine zak rfl rfl ?_ ?_)<;>intro<;>try (first |(exfalso;omega)))|((first |refine zab rfl rfl ?_ ?_|refine zaj rfl rfl rfl rfl ?_ ?_|refine zav rfl rfl ?_ ?_);focus (first |exact le_ rfl|((repeat' refine And.intro ?_ ?_)<;>omega)|((repeat' refine And.intro ?_ ?_)<;>first |rfl)))|refine zaq rfl ?_|refine zae (f := 88) rfl rfl Tryz.call88 rfl c1 ?_|refine zae (f := 89) rfl rfl Tryz.call89 rfl u1 ?_|fail)
        all_goals rfl

theorem ziB {rows : List (List Tx)} {j : JnR} {l : List AtR} {i : Nat} (h : l.length ≤ i) (h2 : j.attr ∉ (keysA l).take i) : attrsJ rows j l = (l, !j.drop) := by
  have e : (keysA l).length = l.length := List.length_map ..
  rw [List.take_of_length_le (by omega)] at h2
  have := (zbO j.attr (keysA l)).1
  unfold attrsJ
  rw [if_pos (by
    by_cases q : Csv.idxI j.attr (keysA l) < 0
    · exact q
    · exact absurd (this (by omega)) h2)]
theorem zjA (l : List AtR) (i : Nat) : (keysA l).getD i [] = (l.getD i ([], v03)).1 := by
  unfold keysA
  exact zdn (fun a : AtR => a.1) l ([], v03) i
theorem zkz {rows : List (List Tx)} {j : JnR} {l : List AtR} {i : Nat} (h : i < l.length) (h2 : j.attr ∉ (keysA l).take i) (h3 : (l.getD i ([], v03)).1 = j.attr) : attrsJ rows j l = if (keyV (l.getD i ([], v03)).2).2 = true ∧ (rowV rows j (keyV (l.getD i ([], v03)).2).1).2 = true then (overA l (rowV rows j (keyV (l.getD i ([], v03)).2).1).1, true) else (l, !j.drop) := by
  have e : (keysA l).length = l.length := List.length_map ..
  have e2 : Csv.idxI j.attr (keysA l) = (i : Int) := idxI_hit (by omega) h2 (by rw [zjA]; exact h3)
  unfold attrsJ
  rw [e2, if_neg (by omega), Int.toNat_natCast]
set_option maxRecDepth 100000 in
set_option maxHeartbeats 16000000 in
theorem zlk (rows : List (List Tx)) (j : JnR) (l : List AtR) (n : Nat) (hT : RightT n rows j) (hn : n ≤ 700) (h1 : j.only.length ≤ 4194304) (h2 : j.notl.length ≤ 4194304) (hl : l.length ≤ 1048576) (hv : okAtt l) : Ctr Tryz.prog 15 [.sl 1 rows.length (Csv.tabF rows), .ag (jnP j), .sl 4 l.length (atrF l)] (.tu [.sl 4 (attrsJ rows j l).1.length (atrF (attrsJ rows j l).1), .b (attrsJ rows j l).2]) := by
  have cR := fun key => zjw rows j key n hT hn h1 h2
  have rF := fun key => zhc rows j key
  have hnl : (namesR rows).length ≤ n + 1 := (zaI hT.good).1
  have aM := fun i => ziB (rows := rows) (j := j) (l := l) (i := i)
  have aH := fun i => zkz (rows := rows) (j := j) (l := l) (i := i)
  have kL : (keysA l).length = l.length := List.length_map ..
  have kA := zjA l
  generalize attrsJ rows j l = R at *
  refine zax Tryz.func15 rfl Tryz.ntmps15 Tryz.results15 rfl rfl fun X hL hX => ?_
  clear hT
  repeat' (first |with_reducible (first |refine zah ?_|refine zaa ?_|refine zag ?_|refine zad ?_|refine zaf ?_)|refine zab rfl rfl True.intro ?_|((first |refine zav rfl rfl ?_ ?_);focus (first |((repeat' refine And.intro ?_ ?_)<;>omega)|((repeat' refine And.intro ?_ ?_)<;>first |rfl)))|fail)
  refine T.loop hL (fun i : Nat => [(0, .sl 1 rows.length (Csv.tabF rows)), (2, .sl 4 l.length (atrF l)), (4, .pv 4 0), (8, .i .i64 i)]) (fun _ => [(4, .var (jnP j))])
    (fun i => i ≤ l.length ∧ j.attr ∉ (keysA l).take i) (fun i => l.length - i) 0 ⟨Nat.zero_le _, by rw [List.take_zero]; exact List.not_mem_nil⟩
    ⟨⟨rfl, rfl, rfl, rfl, trivial⟩, ⟨rfl, trivial⟩, rfl, by rw [hX]; simp⟩ ?_
  rintro i ⟨g1, g2⟩
  try dsimp only at g1 g2 ⊢
  have hnat : (i : Int).toNat = i := Int.toNat_natCast _
  by_cases hi : i < l.length
  rotate_left
  · have hi' : ¬ (i : Int) < (l.length : Int) := by omega
    rw [aM i (by omega) g2]
    dsimp only
    repeat' (first |with_reducible (first |refine zah ?_|refine zaa ?_|refine zag ?_|refine zad ?_|refine zan ?_|refine zat ?_|refine zas ?_|refine zaC ?_)|refine zab rfl rfl True.intro ?_|((first |refine zac rfl ?_ ?_)<;>intro<;>try (first |(exfalso;omega)))|((first |refine zab rfl rfl ?_ ?_);focus (first |exact le_ rfl|((repeat' refine And.intro ?_ ?_)<;>omega)))|refine zaB rfl ?_|with_reducible refine ⟨by kernel_rfl, ?_⟩|refine zaq rfl ?_|fail)
    all_goals rfl
  have hi' : (i : Int) < (l.length : Int) := by omega
  by_cases hm : (l.getD i ([], v03)).1 = j.attr
  rotate_left
  · have hm' : ¬ ((l.getD (i : Int).toNat ([], v03)).1 == j.attr) = true := by
      rw [hnat]
      exact fun q => hm (beq_iff_eq.1 q)
    have g3 : j.attr ∉ (keysA l).take (i + 1) := by
      rw [zcI (by rw [kL]; omega), List.mem_append, List.mem_singleton, kA]
      exact fun q => q.elim g2 fun q => hm q.symm
    clear g2 aM aH cR
    repeat' (first |with_reducible (first |refine zah ?_|refine zaa ?_|refine zag ?_|refine zad ?_|refine zai ?_|refine zat ?_|refine zaf ?_|refine zas ?_|refine zaC ?_)|refine zab rfl rfl True.intro ?_|((first |refine zac rfl ?_ ?_|refine zaS rfl ?_ ?_)<;>intro<;>try (first |contradiction))|((first |refine zab rfl rfl ?_ ?_);focus (first |omega|exact le_ rfl|((repeat' refine And.intro ?_ ?_)<;>omega)))|refine zaB rfl ?_|with_reducible refine ⟨by kernel_rfl, ?_⟩|fail)
    all_goals first
      | exact ⟨i + 1, ⟨by omega, g3⟩, by omega, ⟨rfl, rfl, rfl, rfl, trivial⟩, ⟨rfl, trivial⟩, rfl, by rw [hX]; simp⟩
      | (exfalso; omega)
      | trace_state
  have hm' : ¬ ((l.getD (i : Int).toNat ([], v03)).1 == j.attr) = false := by
    rw [hnat]
    exact fun q => beq_eq_false_iff_ne.1 q hm
  rw [aH i hi g2 hm]
  clear g2 aM aH
  obtain ⟨v1, v2, v3⟩ := hv (i : Int).toNat
  have cK := zox (l.getD (i : Int).toNat ([], v03)).2.1 (l.getD (i : Int).toNat ([], v03)).2.2.1 v3 (l.getD (i : Int).toNat ([], v03)).2.2.2.toNat (by omega)
  rw [Int.toNat_of_nonneg v1] at cK
  have hkv : keyF (l.getD (i : Int).toNat ([], v03)).2.1 (l.getD (i : Int).toNat ([], v03)).2.2.1 (validL (l.getD (i : Int).toNat ([], v03)).2.2.1) (l.getD (i : Int).toNat ([], v03)).2.2.2.toNat = keyV (l.getD i ([], v03)).2 := by rw [hnat]; rfl
  rw [hkv] at cK
  clear hkv hv
  generalize keyV (l.getD i ([], v03)).2 = kv at *
  obtain ⟨key, kb⟩ := kv
  cases kb with
  | false =>
    rw [if_neg (fun q => Bool.false_ne_true q.1)]
    clear cR
    dsimp only
    repeat' (first |refine zae (f := 46) rfl rfl Tryz.call46 rfl cK ?_|with_reducible (first |refine zah ?_|refine zaa ?_|refine zag ?_|refine zad ?_|refine zan ?_|refine zai ?_|refine zaf ?_|refine zam ?_|refine zaz ?_|refine zaC ?_)|refine zab rfl rfl True.intro ?_|refine zau rfl ?_|((first |refine zac rfl ?_ ?_|refine zaS rfl ?_ ?_)<;>intro<;>try (first |contradiction))|((first |refine zab rfl rfl ?_ ?_);focus (first |omega|exact le_ rfl|((repeat' refine And.intro ?_ ?_)<;>omega)))|with_reducible refine ⟨by kernel_rfl, ?_⟩|refine zaq rfl ?_|fail)
    all_goals first
      | rfl
      | (exfalso; omega)
      | trace_state
  | true =>
    dsimp only
    have cR := cR key
    have hrf := rF key
    clear rF
    generalize rowV rows j key = rv at *
    obtain ⟨ra, rb⟩ := rv
    dsimp only at cR hrf ⊢
    cases rb with
    | false =>
      rw [if_neg (fun q => Bool.false_ne_true q.2)]
      dsimp only
      repeat' (first |refine zae (f := 46) rfl rfl Tryz.call46 rfl cK ?_|refine zae (f := 14) rfl rfl Tryz.call14 rfl cR ?_|with_reducible (first |refine zah ?_|refine zaa ?_|refine zag ?_|refine zad ?_|refine zan ?_|refine zai ?_|refine zaf ?_|refine zam ?_|refine zaz ?_|refine zaC ?_)|refine zab rfl rfl True.intro ?_|refine zau rfl ?_|refine zal rfl ?_|((first |refine zac rfl ?_ ?_|refine zaS rfl ?_ ?_)<;>intro<;>try (first |contradiction))|((first |refine zab rfl rfl ?_ ?_);focus (first |omega|exact le_ rfl|((repeat' refine And.intro ?_ ?_)<;>omega)))|with_reducible refine ⟨by kernel_rfl, ?_⟩|refine zaq rfl ?_|fail)
      all_goals first
        | rfl
        | (exfalso; omega)
        | trace_state
    | true =>
      rw [if_pos ⟨rfl, rfl⟩]
      have cO := zhK l ra hl (by omega)
      rw [zjm] at cO
      dsimp only
      repeat' (first |refine zae (f := 46) rfl rfl Tryz.call46 rfl cK ?_|refine zae (f := 14) rfl rfl Tryz.call14 rfl cR ?_|refine zae (f := 17) rfl rfl Tryz.call17 rfl cO ?_|with_reducible (first |refine zah ?_|refine zaa ?_|refine zag ?_|refine zad ?_|refine zan ?_|refine zai ?_|refine zaf ?_|refine zam ?_|refine zaz ?_|refine zaC ?_)|refine zab rfl rfl True.intro ?_|refine zal rfl ?_|((first |refine zac rfl ?_ ?_|refine zaS rfl ?_ ?_)<;>intro<;>try (first |contradiction))|((first |refine zab rfl rfl ?_ ?_);focus (first |omega|exact le_ rfl|((repeat' refine And.intro ?_ ?_)<;>omega)))|with_reducible refine ⟨by kernel_rfl, ?_⟩|refine zaq rfl ?_|fail)
      all_goals first
        | rfl
        | (exfalso; omega)
        | trace_state
end Go.Proofs.YtkkaamhocpmhkaaGreatDoor.Flow
