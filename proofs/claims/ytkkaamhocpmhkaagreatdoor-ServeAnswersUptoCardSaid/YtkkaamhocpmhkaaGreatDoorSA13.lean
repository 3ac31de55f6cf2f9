/- The texts FlowXj, K30, K31, K32, V1, V2, V3, W0, one behind the other. -/
import Derived.Test.YtkkaamhocpmhkaaGreatDoorSA9
import Derived.Test.YtkkaamhocpmhkaaGreatDoorSA11
import Derived.Test.YtkkaamhocpmhkaaGreatDoorSA12
import Derived.Laws.BitsLemmas
import Derived.Shelf.Strings.SlTrimAscii
import Derived.Lib.SplitLaws
namespace Go.Proofs.YtkkaamhocpmhkaaGreatDoor.Flow
open Go
section
variable {X : Ctx} {n : Nat} {fr : Fr} {ow : Ow}
def FinO (X : Ctx) (d : D) (ow' : Ow) (e : Ending) (w' : World) : Prop := ∃ v S' r', e = .returned v ∧ Rel S' w' r' d v ∧ Hist X w' S' ∧ Inv X w' S' r' (fO ow') ∧ RhoLe X.r0 r'
theorem ziI {f : FuncId} {fn : Func} {c : Code} {N : Nat} {args : List D} {d : D} {lo lo' : Ow} {ids : List Nat} (hf : Tryz.prog.funcs[f]? = some fn) (hb : fn.body = some c) (hN : fn.ntmps = N) (hlen : Nat.ble args.length N = true) (hi1 : lo.map (·.1) = ids)
    (h : ∀ X : Ctx, Lent X → X.ids = ids → X.dfs = [] → TD Tryz.prog X N c (slots 0 args) lo (bodyPostM Fence.wide 0 Tryz.prog fn (FinO X d lo'))) : CtrO Tryz.prog f args lo d lo' := by
  refine CtrO.of0 fun X vs hdf0 hids hH hI hsz hrel => ?_
  have hlen' : args.length ≤ N := by simpa using hlen
  have hL : Lent X := fun k hk => by
    rw [hids]
    cases hmem : look k lo with
    | none => exact absurd (hI.dom k hmem) hk
    | some o =>
      by_cases hm : k ∈ lo.map (·.1)
      · exact hm
      · rw [zaK hm] at hmem; cases hmem
  have hrep : Rep X N (fF (slots 0 args)) (fO lo) { tmps := vs ++ Array.replicate (fn.ntmps - vs.size) undef, defers := [] } X.w0 := by
    refine ⟨X.S0, X.r0, hH, hI, fun t => ?_, hdf0.symm, by simp; omega, RhoLe.refl _⟩
    show Rel _ _ _ (getD' t (slots 0 args)) _
    rw [zaZ]
    simp only [Nat.zero_le, if_true, Nat.sub_zero]
    by_cases ht : t < args.length
    · have := hrel t ht
      rw [Array.getD_eq_getD_getElem?, Array.getElem?_append_left (by omega), ← Array.getD_eq_getD_getElem?]
      exact this
    · rw [List.getD_eq_getElem?_getD, List.getElem?_eq_none (by omega)]
      exact .any ..
  exact callsIn_wide.1 (callsIn_of_wp_marks (F := Fence.wide) (n := 0) hf hb trivial (wpIn_wide.2 ((h X hL (hids.trans hi1) hdf0).out _ _ hrep)))
theorem zdH {X1 : Ctx} {kD b : Nat} {fn : Func} {rs : List ResultVar} {d d2 : D} {a : Act} {w : World} {lo' : Ow} {ids2 : List Nat} (hL : Lent X) (hm : Mark X X1 kD b) (hrep : Rep X1 n (fF fr) (fO ow) a w) (hk : look kD ow = some (.ob (.deferred (some [])))) (hrs : fn.results = ⟨rs⟩)
    (hres : resS B fr ((kD, .ob (.deferred none)) :: ow) rs = some d2) (hw : Weak d2 d) (hi2 : lo'.map (·.1) = ids2) (hd : d.okS ids2 = true) (hcs : lo'.all (fun x => x.2.okIn ids2) = true) (hsub : ∀ k ∈ X.ids, k ∈ ids2) (hlo : leOw ((kD, .ob (.deferred none)) :: ow) lo') :
    LeavesInM Fence.wide 0 Tryz.prog fn a.tmps (FinO X d lo') a.defers .returning w := by
  subst hi2
  obtain ⟨S, r, hH, hI, hF, hdfs, hn, hρ⟩ := hrep
  rw [hdfs, hm.dfs]
  have hb := zbQ hm.blk hρ
  obtain ⟨b', h1, h2, _⟩ := hI.obj kD _ hk
  rw [hb] at h1
  cases h1
  obtain ⟨s1, s2, s3⟩ := zcZ (.deferred none) hH hI hk hb
  rw [← zaA] at s2
  refine ⟨by simp, .inl ⟨b, _, rfl, run_takeDeferred h2, ?_⟩⟩
  obtain ⟨v, hv, hvr⟩ := zdB (P := Tryz.prog) (fn := fn) (a := a) hrs s2 (fun t => (hF t).mono (fun _ _ h => h) s3 r (RhoLe.refl _)) (by rw [zcO]; exact hres)
  have hρ0 : RhoLe X.r0 r := hm.le.trans hρ
  have key := s2.keep hlo hcs
  have hist : Hist X (w.putObj b (.deferred none)) S ∧ Inv X (w.putObj b (.deferred none)) S (keepR r (lo'.map (·.1))) (fO lo') := by
    obtain ⟨w0, S0, L, r0, ids, dfs⟩ := X1
    obtain ⟨e1, e2, e3, _, _, _, _, _⟩ := hm
    cases e1
    cases e2
    cases e3
    exact ⟨⟨s1.os, s1.tape, s1.output, s1.size, s1.block, s1.sub, s1.cell, s1.new, s1.valid, s1.glob⟩, ⟨key.obj, key.dom, key.apart, key.low⟩⟩
  refine ⟨v, hv, v, S, keepR r (lo'.map (·.1)), rfl, (hvr.weak hw).okS hd, hist.1, hist.2, fun k l hk => ?_⟩
  obtain ⟨l', g1, g2⟩ := hρ0 k l hk
  have : k ∈ lo'.map (·.1) := hsub k (hL k (by rw [hk]; simp))
  exact ⟨l', by simp only [keepR]; rw [if_pos this]; exact g1, g2⟩
end

def flF (hs : List (List UInt8 × List UInt8)) : Nat → List D := fun i => [.s (if i % 2 = 0 then (hs.getD (i / 2) ([], [])).1 else (hs.getD (i / 2) ([], [])).2)]
theorem zjG (n : Nat) (f : Nat → List D) : CtrO Tryz.prog 99 [.sl 1 n f, .i .i64 2] [] (.fn 146 [.pv 60 0, .pv 61 0]) [(60, .var [.sl 1 n f]), (61, .var [.i .i64 2])] := by
  refine zbG (ids := []) (ids2 := [60, 61]) Tryz.func99 rfl Tryz.ntmps99 Tryz.results99 rfl rfl rfl (fun _ h => by cases h) rfl rfl fun X hL hX => ?_
  repeat' (first |refine zeB 60 rfl rfl rfl rfl rfl ?_|refine zeB 61 rfl rfl rfl rfl rfl ?_|with_reducible (first |refine zag ?_|refine zaa ?_|refine zaf ?_|refine zac ?_|refine zar ?_|refine zah ?_)|refine zab rfl rfl True.intro ?_|refine zak rfl ?_|((first |refine zab rfl rfl ?_ ?_);focus (first |exact le_ rfl|((repeat' refine And.intro ?_ ?_)<;>omega)))|refine zev rfl rfl ⟨rfl, rfl, trivial⟩|fail)
  all_goals trace_state
abbrev idsC : List Nat := [50, 51, 3, 60, 61, 105]
abbrev ownC (hs : List (List UInt8 × List UInt8)) (rec : Loop) (l : List (List UInt8 × List UInt8)) : Ow := [(50, .ob (.loop rec)), (51, .ob (.deferred (some []))), (3, .var [.gs 105 2 l.length (hdF l)]), (60, .var [.sl 1 (2 * hs.length) (flF hs)]), (61, .var [.i .i64 2]), (105, .row 54 2 l.length)]
section
variable {lp : Nat} {Hx : Cells → World → Rho → Prop}
set_option maxRecDepth 100000 in
set_option maxHeartbeats 8000000 in
theorem iterC (hs : List (List UInt8 × List UInt8)) (hb : hs.length ≤ 1000000) (hst : Stab Hx idsC) (rec : Loop)
    (hY : ∀ q, q < hs.length → YC Tryz.prog lp Hx [.sl 1 2 (fun i => flF hs (2 * q + i))] (ownC hs rec (hs.take q)) true (ownC hs rec (hs.take (q + 1)))) :
    CtrH Tryz.prog 146 Hx [.v (.func (.yield lp) #[] #[]), .pv 60 0, .pv 61 0] (ownC hs rec []) (.tu []) (ownC hs rec hs) := by
  refine zkc (ids := idsC) Tryz.func146 rfl Tryz.ntmps146 Tryz.results146 rfl rfl rfl rfl rfl fun X hL hX hdf hx => ?_
  repeat' (first |with_reducible (first |refine zag ?_|refine zaa ?_|refine zaf ?_|refine zac ?_|refine zae ?_)|refine zab rfl rfl True.intro ?_|fail)
  refine T.loop hL (fun q : Nat => [(0, .v (.func (.yield lp) #[] #[])), (1, .pv 60 0), (2, .pv 61 0), (4, .i .i64 ((2 * q : Nat) : Int))]) (fun q => ownC hs rec (hs.take q))
    (fun q => q ≤ hs.length) (fun q => hs.length - q) 0 (Nat.zero_le _)
    ⟨⟨rfl, rfl, rfl, rfl, trivial⟩, ⟨rfl, rfl, rfl, rfl, rfl, rfl, trivial⟩, rfl, fun q hq => by rw [hX] at hq; exact hq⟩ ?_
  intro q g1
  try dsimp only at g1 ⊢
  by_cases hq : q < hs.length
  rotate_left
  · have hq' : ¬ ((2 * q : Nat) : Int) < ((2 * hs.length : Nat) : Int) := by omega
    have e : hs.take q = hs := List.take_of_length_le (by omega)
    rw [e]
    clear hY
    repeat' (first |with_reducible (first |refine zag ?_|refine zaa ?_|refine zaf ?_|refine zac ?_|refine zan ?_|refine zao ?_)|refine zab rfl rfl True.intro ?_|((first |refine zad rfl ?_ ?_)<;>intro<;>try (first |(exfalso;omega)))|((first |refine zab rfl rfl ?_ ?_);focus (first |exact le_ rfl|((repeat' refine And.intro ?_ ?_)<;>omega)))|refine zat rfl ?_|refine zls rfl rfl ⟨rfl, rfl, rfl, rfl, rfl, rfl, trivial⟩|fail)
    all_goals trace_state
  have hq' : ((2 * q : Nat) : Int) < ((2 * hs.length : Nat) : Int) := by omega
  have hYi := hY q hq
  have hub : (2 * hs.length : Nat) ≤ 2000000 := by omega
  clear hY
  repeat' (first |refine zmO (2 * q) 2 (2 * q + 2) rfl rfl rfl rfl rfl rfl (by omega) (by omega) (Nat.le_refl _) (by omega) rfl ?_|(refine T.regionY (id := 4) hx hst 10 ?_;dsimp only [splitOp3])|refine zgs (ownC hs rec (hs.take q)) (ownC hs rec (hs.take (q + 1))) idsC true rfl rfl ⟨rfl, rfl, rfl, rfl, rfl, rfl, trivial⟩ rfl rfl (by decide) hst rfl rfl rfl hYi ?_|with_reducible (first |refine zag ?_|refine zaa ?_|refine zaf ?_|refine zac ?_|refine zah ?_|refine zae ?_|refine zai ?_|refine zaH ?_)|refine zab rfl rfl True.intro ?_|refine zak rfl ?_|((first |refine zad rfl ?_ ?_)<;>intro<;>try (first |(exfalso;omega)))|((first |refine zab rfl rfl ?_ ?_);focus (first |omega|exact le_ rfl|((repeat' refine And.intro ?_ ?_)<;>omega)))|with_reducible refine ⟨by kernel_rfl, ?_⟩|fail)
  all_goals first
    | exact ⟨q + 1, by omega, by omega, ⟨rfl, rfl, rfl, congrArg (D.i .i64) (by omega), trivial⟩, ⟨rfl, rfl, rfl, rfl, rfl, rfl, trivial⟩, rfl, fun q hq => by rw [hX] at hq; exact hq⟩
    | trace_state
end

set_option maxRecDepth 100000 in
set_option maxHeartbeats 8000000 in
theorem zel (hs : List (List UInt8 × List UInt8)) (hb : hs.length ≤ 1000) : CtrO Tryz.prog 51 [.sl 1 (2 * hs.length) (flF hs)] [] (.gs 105 2 hs.length (hdF hs)) [(105, .row 54 2 hs.length)] := by
  have cC := zjG (2 * hs.length) (flF hs)
  refine ziI (ids := []) Tryz.func51 rfl Tryz.ntmps51 rfl rfl fun X hL hX hdf => ?_
  repeat' (first |refine zgp (x := .region _ _ _) ?_|refine T.adoptV 3 0 105 54 2 _ (hdF []) rfl rfl rfl ?_|refine TD.seqR ?_|refine TD.blockR ?_|refine zby (f := 99) [] [(60, .var [.sl 1 (2 * hs.length) (flF hs)]), (61, .var [.i .i64 2])] [] [60, 61] rfl rfl (by decide) (fun _ h => by cases h) (fun k h _ => by rcases List.mem_cons.1 h with rfl|h;exact rfl;rw [List.mem_singleton.1 h];rfl) rfl rfl Tryz.call99 trivial rfl rfl rfl rfl cC ?_|with_reducible (first |refine zaa ?_|refine zaf ?_|refine zac ?_)|refine zab rfl rfl True.intro ?_|((first |refine zaw rfl rfl ?_ ?_);focus (first |((repeat' refine And.intro ?_ ?_)<;>omega)|((repeat' refine And.intro ?_ ?_)<;>first |rfl)))|fail)
  refine TD.rangeFunc hL hdf [(3, .pv 3 0), (6, .fn 146 [.pv 60 0, .pv 61 0])]
    [(3, .var [.gs 105 2 0 (hdF [])]), (60, .var [.sl 1 (2 * hs.length) (flF hs)]), (61, .var [.i .i64 2]), (105, .row 54 2 0)]
    [(3, .var [.gs 105 2 hs.length (hdF hs)]), (60, .var [.sl 1 (2 * hs.length) (flF hs)]), (61, .var [.i .i64 2]), (105, .row 54 2 hs.length)]
    [3, 60, 61, 105]
    ⟨⟨rfl, rfl, trivial⟩, ⟨rfl, rfl, rfl, rfl, trivial⟩, rfl, fun q hq => by rw [hX] at hq; cases hq⟩ rfl rfl 50 51 (by decide) (g := 146) (caps := [.pv 60 0, .pv 61 0]) rfl Tryz.call146 rfl rfl rfl rfl none ?_ ?_
  · intro fn tmps Dx l htm
    refine iterC hs (by omega) (Hl.stab (by decide) rfl) _ fun q hq => ?_
    refine YC.of_T2 (kR := 50) (N := 15) none [7] rfl rfl rfl rfl rfl (by decide) htm rfl rfl rfl rfl fun X hL hX hdf => ?_
    clear cC
    have e0 : ∀ i, i < 2 → flF hs (2 * q + i) = [[D.s (hs.getD q ([], [])).1, D.s (hs.getD q ([], [])).2].getD i .any] := fun i hi => by
      unfold flF
      have : i = 0 ∨ i = 1 := by omega
      rcases this with rfl | rfl
      · rw [if_pos (by omega), show (2 * q + 0) / 2 = q by omega]; rfl
      · rw [if_neg (by omega), show (2 * q + 1) / 2 = q by omega]; rfl
    have e1 : hs.take (q + 1) = hs.take q ++ [hs.getD q ([], [])] := by
      rw [List.take_add_one]
      simp [List.getD_eq_getElem?_getD, hq]
    have hkl : (hs.take q).length ≤ 1000 := by rw [List.length_take]; omega
    rw [e1]
    clear e1
    generalize hs.take q = k at *
    generalize hs.getD q ([], []) = p at *
    have e2 : catF k.length (hdF k) 1 (chunk 2 [.s p.1, .s p.2]) = hdF (k ++ [p]) := zgO k [p] _ fun i hi => by
      obtain rfl : i = 0 := by simpa using hi
      rfl
    have e3 : (k ++ [p]).length = k.length + 1 := by simp
    dsimp only [recOf, setFr]
    repeat' (first |refine And.intro (a := look _ _ = _) rfl ?_|refine r_sa (m := 1) [.s p.1, .s p.2] rfl rfl rfl (by decide) e0 rfl ?_|with_reducible (first |refine zaa ?_|refine zaf ?_|refine zac ?_|refine zae ?_|refine zai ?_|refine zaH ?_)|refine zab rfl rfl True.intro ?_|((first |refine zab rfl rfl ?_ ?_|refine zaw rfl rfl ?_ ?_|refine zax rfl ?_ ?_);focus (first |exact le_ rfl|((repeat' refine And.intro ?_ ?_)<;>omega)|((repeat' refine And.intro ?_ ?_)<;>first |omega|rfl|exact Nat.le_refl _)))|with_reducible refine ⟨by kernel_rfl, ?_⟩|refine zjX rfl ⟨rfl, rfl, (by rw [e3, ← e2];rfl), rfl, rfl, (by rw [e3];rfl), trivial⟩|fail)
    all_goals trace_state
  · intro X1 Dx rec rec2 hm
    refine zet ?_
    clear cC
    unfold loopOw
    repeat' (first |refine zgp (x := .region _ _ _) ?_|refine ziq ?_|with_reducible (first |refine zaa ?_|refine zaf ?_|refine zac ?_|refine zar ?_)|refine zab rfl rfl True.intro ?_|((first |refine zab rfl rfl ?_ ?_);focus (first |exact le_ rfl|((repeat' refine And.intro ?_ ?_)<;>omega)))|refine x_raw ⟨?_⟩|fail)
    all_goals first
      | exact fun a w hr => zdH hL hm hr rfl Tryz.results51 rfl (.refl _) rfl rfl rfl (fun q hq => by rw [hX] at hq; cases hq) ⟨rfl, trivial⟩
      | trace_state

def txK (l : List (List UInt8)) : Nat → List D := fun i => [.s (l.getD i [])]
def idxK (n : List UInt8) : List (List UInt8) → Int
  | [] => -1
  | a :: r => if a = n then 0 else if idxK n r < 0 then -1 else idxK n r + 1
theorem zgV {n : List UInt8} : ∀ {l : List (List UInt8)} {i : Nat}, (∀ j, j < i → ¬ l.getD j [] = n) → i < l.length → l.getD i [] = n → idxK n l = i
  | [], _, _, h, _ => by simp at h
  | a :: r, 0, _, _, h => by simp only [List.getD_cons_zero] at h; simp [idxK, h]
  | a :: r, i + 1, h1, h2, h3 => by
    have h0 := h1 0 (by omega)
    simp only [List.getD_cons_zero] at h0
    have ih := zgV (n := n) (l := r) (i := i) (fun j hj => by have := h1 (j + 1) (by omega); simpa using this) (by simpa using h2) (by simpa using h3)
    simp only [idxK, if_neg h0, ih]
    rw [if_neg (by omega)]
    omega
theorem zfv {n : List UInt8} : ∀ {l : List (List UInt8)}, (∀ j, j < l.length → ¬ l.getD j [] = n) → idxK n l = -1
  | [], _ => rfl
  | a :: r, h1 => by
    have h0 := h1 0 (by simp)
    simp only [List.getD_cons_zero] at h0
    have ih := zfv (n := n) (l := r) (fun j hj => by have := h1 (j + 1) (by simpa using hj); simpa using this)
    simp only [idxK, if_neg h0, ih]
    rw [if_pos (by omega)]
set_option maxHeartbeats 4000000 in
theorem zid (l : List (List UInt8)) (n : List UInt8) (hl : l.length ≤ 1099511627776) : Ctr Tryz.prog 63 [.sl 1 l.length (txK l), .s n] (.i .i64 (idxK n l)) := by
  refine zaE Tryz.func63 rfl Tryz.ntmps63 Tryz.results63 rfl rfl fun X hL hX => ?_
  repeat' (first |with_reducible (first |refine zag ?_|refine zaa ?_|refine zaf ?_|refine zac ?_|refine zae ?_)|refine zab rfl rfl True.intro ?_|fail)
  refine T.loop hL (fun i : Nat => [(0, .sl 1 l.length (txK l)), (1, .s n), (7, .i .i64 l.length), (8, .i .i64 i)]) (fun _ => [])
    (fun i => i ≤ l.length ∧ ∀ j, j < i → ¬ l.getD j [] = n) (fun i => l.length - i) 0 ⟨by omega, by simp⟩
    ⟨⟨rfl, rfl, rfl, rfl, trivial⟩, trivial, rfl, by rw [hX]; simp⟩ ?_
  rintro i ⟨h1, h2⟩
  try dsimp only at h1 h2 ⊢
  repeat' (first |with_reducible (first |refine zag ?_|refine zaa ?_|refine zaf ?_|refine zac ?_|refine zar ?_|refine zah ?_|refine zan ?_|refine zae ?_|refine zai ?_|refine zao ?_|refine zaB ?_|refine zaO ?_)|refine zab rfl rfl True.intro ?_|((first |refine zad rfl ?_ ?_|refine zeJ rfl ?_ ?_)<;>intro)|((first |refine zab rfl rfl ?_ ?_);focus (first |omega|exact le_ rfl))|refine zat rfl ?_|refine zau rfl ?_|fail)
  · rename_i hi he
    simp only [Int.toNat_natCast] at *
    exact congrArg (D.i .i64) (zgV h2 (by omega) he.symm).symm
  · rename_i hi he
    simp only [Int.toNat_natCast] at *
    exact ⟨i + 1, ⟨by omega, fun j hj => by
      by_cases e : j = i
      · subst e; exact fun h => he h.symm
      · exact h2 j (by omega)⟩, by omega, ⟨rfl, rfl, rfl, rfl, trivial⟩, trivial, rfl, by rw [hX]; simp⟩
  · exact congrArg (D.i .i64) (zfv (fun j hj => h2 j (by omega))).symm
theorem zho (n : List UInt8) : ∀ l : List (List UInt8), 0 ≤ idxK n l ↔ n ∈ l
  | [] => by
    rw [idxK]
    exact ⟨fun h => absurd h (by decide), fun h => (List.not_mem_nil h).elim⟩
  | a :: r => by
    have ih := zho n r
    rw [idxK, List.mem_cons]
    by_cases ha : a = n
    · rw [if_pos ha]
      exact ⟨fun _ => .inl ha.symm, fun _ => Int.le_refl _⟩
    · rw [if_neg ha]
      by_cases h0 : idxK n r < 0
      · rw [if_pos h0]
        exact ⟨fun h => absurd h (by decide), fun h => by have := ih.2 (h.resolve_left fun q => ha q.symm); omega⟩
      · rw [if_neg h0]
        exact ⟨fun _ => .inr (ih.1 (by omega)), fun _ => by omega⟩
set_option maxHeartbeats 4000000 in
theorem zkP (l : List (List UInt8)) (x : List UInt8) (hl : l.length ≤ 1099511627776) : Ctr Tryz.prog 33 [.sl 1 l.length (txK l), .s x] (.b (decide (x ∈ l))) := by
  have c := zid l x hl
  refine zaE Tryz.func33 rfl Tryz.ntmps33 Tryz.results33 rfl rfl fun X hL hX => ?_
  repeat' (first |refine zaj (f := 63) rfl rfl Tryz.call63 rfl c ?_|with_reducible (first |refine zag ?_|refine zaa ?_|refine zaf ?_|refine zac ?_|refine zar ?_)|refine zab rfl rfl True.intro ?_|refine zau rfl ?_|fail)
  all_goals exact congrArg D.b (decide_eq_decide.2 (zho x l))

theorem zjg (k : IntKind) (j : Nat) (hj : j ≤ k.bits) (hk : ∀ n : Int, 0 ≤ n → n < 2 ^ j → k.wrap n = n) (a b : Nat) (ha : a < 2 ^ j) (hb : b < 2 ^ j) : bits .xor k a b = ((a ^^^ b : Nat) : Int) := by
  have hp : 2 ^ j ≤ 2 ^ k.bits := Nat.pow_le_pow_right (by decide) hj
  have ha' : a % 2 ^ k.bits = a := Nat.mod_eq_of_lt (Nat.lt_of_lt_of_le ha hp)
  have hb' : b % 2 ^ k.bits = b := Nat.mod_eq_of_lt (Nat.lt_of_lt_of_le hb hp)
  have cast : ∀ n : Nat, n < 2 ^ j → ((n : Nat) : Int) < 2 ^ j := fun n h => by exact_mod_cast h
  simp only [bits, BitVec.ofInt_natCast, BitVec.toNat_xor, BitVec.toNat_ofNat, ha', hb']
  exact hk _ (Int.natCast_nonneg _) (cast _ (Nat.xor_lt_two_pow ha hb))
theorem wrap32 (n : Int) (h0 : 0 ≤ n) (h1 : n < 2 ^ 32) : IntKind.u32.wrap n = n := by
  rw [IntKind.wrap_u32]
  omega
theorem xor32 (a b : Nat) (ha : a < 4294967296) (hb : b < 4294967296) : bits .xor .u32 (a : Int) (b : Int) = ((a ^^^ b : Nat) : Int) := zjg .u32 32 (by decide) wrap32 a b ha hb
theorem wrap8 (n : Int) (h0 : 0 ≤ n) (h1 : n < 2 ^ 8) : IntKind.u8.wrap n = n := by
  rw [IntKind.wrap_u8]
  omega
theorem xor8 (a b : Nat) (ha : a < 256) (hb : b < 256) : bits .xor .u8 (a : Int) (b : Int) = ((a ^^^ b : Nat) : Int) := zjg .u8 8 (by decide) wrap8 a b ha hb
theorem zlN (a : Nat) (ha : a < 4294967296) : bits .and .u32 (a : Int) 1 = ((a % 2 : Nat) : Int) := by
  have h := (bits_nat .u32 32 (by decide) wrap32 a 1 ha (by decide)).1
  have e : a &&& 1 = a % 2 := Nat.and_one_is_mod a
  rw [e] at h
  exact h
def crcS (n : Nat) : Nat := if n % 2 = 1 then (n / 2) ^^^ 3988292384 else n / 2
def crcN : Nat → Nat → Nat
  | 0, n => n
  | k + 1, n => crcS (crcN k n)
def crcE (c : Nat) : Nat := crcN 8 c
def crcA (st : Nat) (b : List UInt8) : Nat := b.foldl (fun s c => (s / 256) ^^^ crcE ((s % 256) ^^^ c.toNat)) st
def crcOf (b : List UInt8) : Nat := 4294967295 - crcA 4294967295 b
theorem zmq {n : Nat} (h : n < 4294967296) : crcS n < 4294967296 := by
  unfold crcS
  split
  · exact Nat.xor_lt_two_pow (n := 32) (by omega) (by decide)
  · omega
theorem zeH {n : Nat} (h : n < 4294967296) : ∀ k, crcN k n < 4294967296
  | 0 => h
  | k + 1 => zmq (zeH h k)
theorem zgo {c : Nat} (h : c < 256) : crcE c < 4294967296 := zeH (by omega) 8
theorem zmt {s : Nat} (c : UInt8) : (s % 256) ^^^ c.toNat < 256 := Nat.xor_lt_two_pow (n := 8) (Nat.mod_lt _ (by decide)) c.toNat_lt
theorem zgm {s : Nat} (h : s < 4294967296) (c : UInt8) : (s / 256) ^^^ crcE ((s % 256) ^^^ c.toNat) < 4294967296 :=
  Nat.xor_lt_two_pow (n := 32) (by omega) (zgo (zmt c))
theorem zdk : ∀ {b : List UInt8} {s : Nat}, s < 4294967296 → crcA s b < 4294967296
  | [], _, h => h
  | c :: b, _s, h => zdk (b := b) (zgm h c)
theorem zfc {b : List UInt8} {s i : Nat} (h : i < b.length) : crcA s (b.take (i + 1)) = (crcA s (b.take i) / 256) ^^^ crcE ((crcA s (b.take i) % 256) ^^^ (b.getD i 0).toNat) := by
  unfold crcA
  have e : b.take (i + 1) = b.take i ++ [b.getD i 0] := by
    rw [List.take_add_one, List.getElem?_eq_getElem h]
    simp [List.getD_eq_getElem?_getD, h]
  rw [e, List.foldl_append]
  rfl
theorem zmf {n : Nat} (h : n < 4294967296) : n ^^^ 4294967295 = 4294967295 - n := by
  have e : n ^^^ 4294967295 = 2 ^ 32 - 1 - n := by
    apply Nat.eq_of_testBit_eq
    intro i
    rw [Nat.testBit_xor, show 2 ^ 32 - 1 - n = 2 ^ 32 - (n + 1) by omega, Nat.testBit_two_pow_sub_succ (n := 32) (x := n) h, show (4294967295 : Nat) = 2 ^ 32 - 1 from rfl, Nat.testBit_two_pow_sub_one]
    by_cases hi : i < 32
    · simp [hi]
    · simp only [hi, decide_false, Bool.xor_false, Bool.false_and]
      exact Nat.testBit_lt_two_pow (Nat.lt_of_lt_of_le h (Nat.pow_le_pow_right (n := 2) (by decide) (Nat.le_of_not_lt hi)))
  rw [e]

def byteV : List D → Nat
  | [.i _ n] => (n % 256).toNat
  | _ => 0
def btsL (len : Nat) (f : Nat → List D) : List UInt8 := (List.range len).map fun i => UInt8.ofNat (byteV (f i))
theorem zkF (l : List D) : byteV l < 256 := by
  unfold byteV
  split <;> omega
theorem zdq (len : Nat) (f : Nat → List D) : (btsL len f).length = len := by simp [btsL]
theorem zkb {len : Nat} {f : Nat → List D} {i : Nat} (h : i < len) : ((btsL len f).getD i 0).toNat = byteV (f i) := by
  have hb := zkF (f i)
  simp only [btsL, List.getD_eq_getElem?_getD, List.getElem?_map, List.getElem?_range h, Option.map_some, Option.getD_some]
  rw [UInt8.toNat_ofNat']
  omega
theorem xor8m (a : Nat) (n : Int) (ha : a < 256) : bits .xor .u8 (a : Int) n = ((a ^^^ (n % 256).toNat : Nat) : Int) := by
  have h := xor8 a (n % 256).toNat ha (by omega)
  rw [← h]
  have e : BitVec.ofInt IntKind.u8.bits n = BitVec.ofInt IntKind.u8.bits (((n % 256).toNat : Nat) : Int) := by
    apply BitVec.eq_of_toNat_eq
    rw [BitVec.toNat_ofInt, BitVec.toNat_ofInt]
    show (n % 256).toNat = (((n % 256).toNat : Int) % 256).toNat
    omega
  simp only [bits, e]
def tabC (i : Nat) : List D := (List.range 256).map fun j => if j < i then .i .u32 (crcE j : Nat) else .i .u32 0
def tabL : List D := tabC 256
theorem zaV (i : Nat) : (tabC i).length = 256 := by simp [tabC]
theorem zck (i : Nat) (p : D → Bool) (h : ∀ n, p (.i .u32 n) = true) : (tabC i).all p = true := by
  rw [List.all_eq_true]
  intro x hx
  obtain ⟨j, _, rfl⟩ := List.mem_map.1 hx
  split <;> exact h _
theorem zmP : tabC 0 = List.replicate 256 (.i .u32 0) := by
  refine List.ext_getElem (by rw [zaV, List.length_replicate]) fun i h1 h2 => ?_
  simp only [tabC, List.getElem_map, List.getElem_replicate]
  rw [if_neg (Nat.not_lt_zero _)]
theorem zlC {i : Nat} (h : i < 256) : tabL.getD i .any = .i .u32 (crcE i : Nat) := by
  unfold tabL tabC
  simp [List.getD_eq_getElem?_getD, h]
theorem zlE {i : Nat} (h : i < 256) : putCells (tabC i) i [.i .u32 (crcE i : Nat)] = tabC (i + 1) := by
  unfold putCells
  refine List.ext_getElem ?_ fun j h1 h2 => ?_
  · simp only [List.length_append, List.length_take, List.length_drop, List.length_cons, List.length_nil, zaV]
    omega
  · rw [zaV] at h2
    have key : ∀ k, k < 256 → (tabC i)[k]? = some (if k < i then .i .u32 (crcE k : Nat) else .i .u32 0) := fun k hk => by simp [tabC, hk]
    have e2 : (tabC (i + 1))[j]? = some (if j < i + 1 then .i .u32 (crcE j : Nat) else .i .u32 0) := by simp [tabC, h2]
    have e1 : (List.take i (tabC i) ++ [D.i .u32 (crcE i : Nat)] ++ List.drop (i + [D.i .u32 (crcE i : Nat)].length) (tabC i))[j]? = some (if j < i + 1 then .i .u32 (crcE j : Nat) else .i .u32 0) := by
      have hl : (List.take i (tabC i)).length = i := by rw [List.length_take, zaV]; omega
      by_cases c1 : j < i
      · rw [List.append_assoc, List.getElem?_append_left (by omega), List.getElem?_take, if_pos c1, key j h2, if_pos c1, if_pos (by omega)]
      · by_cases c2 : j = i
        · subst c2
          rw [List.append_assoc, List.getElem?_append_right (by omega), hl, Nat.sub_self, if_pos (by omega)]
          rfl
        · rw [List.getElem?_append_right (by simp [hl]; omega), List.getElem?_drop]
          simp only [List.length_append, List.length_cons, List.length_nil, hl]
          rw [show i + (0 + 1) + (j - (i + (0 + 1))) = j by omega, key j h2, if_neg c1, if_neg (by omega)]
    rw [List.getElem?_eq_getElem h1] at e1
    rw [List.getElem?_eq_getElem (by rw [zaV]; exact h2)] at e2
    exact Option.some.inj (e1.trans e2.symm)
section
variable {X : Ctx} {n : Nat} {fr : Fr} {ow : Ow}
theorem zmS {ty : TypeId} {z k t : Nat} {cs : List D} {d : D} (hx : getD' t fr = .pv k 0) (hl : look k ow = some (.var cs)) (hz : B.sz ty = some (z, true)) (hc : cs.length = z) (hd : .ag (cs.map D.shut) = d) : Rtn (Ends [.cell t ty] d) fr ow := by
  refine zau (d2 := .ag (cs.map D.shut)) ?_ hd
  have e : (Nat.beq 0 0 && Nat.beq z cs.length) = true := by rw [hc]; simp
  simp only [resD, resDs, hx, hl, hz, e, zbs]
variable {all rest : List Oper} {tr : List (List Nat × List Nat)} {K : Fr → Ow → List (List Nat × List Nat) → Prop}
variable {P : Program} {o : Oper} {t k : Nat} {ty ty' : TypeId} {x : Operand} {d : D} {ps : String} {af : Array Edge}
theorem ziC (ho : o.op = .box ty x) (hx : ev fr x = d) (hs : d.solid = true) (h1 : d.cells.all D.one = true) (hk : look k ow = none) (hd : dstOk o.dst n) :
    ∀ F' O', (∀ y ∈ o.op.operands.toList, evF F' y = evF (fF fr) y) → (∀ j ∈ [k], O' j = fO ow j) → StepAt P X n o F' O' (.pv k 0) [(k, .var d.cells)] := by
  intro F' O' he hO
  refine zap hd fun a w S r hH hI hr => ?_
  have hk' : O' k = none := (hO k (by simp)).trans hk
  have hv := hr x
  rw [he x (by simp [ho, Op.operands]), zaP, hx] at hv
  obtain ⟨S', r', g1, g2, g3, g4, g5, g6⟩ := zfg ty hH hI hv hs h1 hk'
  refine ⟨_, _, S', r', .inl ?_, g1, g2, g3, g4, g5, g6⟩
  simp [execOp, ho, Instr.box, newVar, newRow]
theorem zmD (k : Nat) (hx : ev fr x = d) (hs : d.solid = true) (h1 : d.cells.all D.one = true) (hk : look k ow = none) (hn : Nat.blt t n = true)
    (h : CT Tryz.prog X n all rest ((t, .pv k 0) :: fr) ((k, .var d.cells) :: ow) (tr ++ [([k], [k])]) K) : CT Tryz.prog X n all (⟨some t, .box ty x, ty', ps, af, none⟩ :: rest) fr ow tr K :=
  CT.cons (e := ⟨.pv k 0, [k], [(k, .var d.cells)]⟩) (.plain rfl (ziC (o := ⟨some t, .box ty x, ty', ps, af, none⟩) rfl hx hs h1 hk (show t < n by simpa using hn))) (zaD ..) (zaA ..) h
end
theorem shr1 (n : Nat) : (n : Int) / 2 ^ (1 : Int).toNat = ((n / 2 : Nat) : Int) := by
  show (n : Int) / 2 ^ 1 = _
  omega
theorem zeV (k c : Nat) : crcN (k + 1) c = crcS (crcN k c) := rfl
theorem okT (i j : Nat) {fr : Fr} (h : fr.all (fun x => x.2.okIn [1, 0]) = true) : okAll [1, 0] fr [(1, .var (tabC i)), (0, .var (tabC j))] = true := by
  unfold okAll
  rw [h]
  show (true && ((tabC i).all (D.okIn [1, 0]) && ((tabC j).all (D.okIn [1, 0]) && true))) = true
  rw [zck i _ fun _ => rfl, zck j _ fun _ => rfl]
  rfl
set_option maxRecDepth 100000 in
set_option maxHeartbeats 2000000 in
theorem zja : Ctr Tryz.prog 148 [] (.ag tabL) := by
  have hfree : (D.ag tabL).free = true := zck 256 D.free1 fun _ => rfl
  refine zaE Tryz.func148 rfl Tryz.ntmps148 Tryz.results148 rfl hfree fun X hL hX => ?_
  repeat' (first |refine zjJ 0 (zd := .ag (List.replicate 256 (.i .u32 0))) rfl rfl (by decide) rfl rfl ?_|refine zjJ 1 (zd := .ag (List.replicate 256 (.i .u32 0))) rfl rfl (by decide) rfl rfl ?_|with_reducible (first |refine zag ?_|refine zaa ?_|refine zaf ?_|refine zac ?_|refine zae ?_)|refine zab rfl rfl True.intro ?_|fail)
  refine T.loop hL (fun i : Nat => [(0, .pv 0 0), (1, .pv 1 0), (4, .i .i64 i)]) (fun i => [(1, .var (tabC i)), (0, .var (tabC 0))]) (fun i => i ≤ 256) (fun i => 256 - i) 0 (by omega)
    ⟨⟨rfl, rfl, rfl, trivial⟩, ⟨by rw [zmP]; rfl, by rw [zmP]; rfl, trivial⟩, okT 0 0 rfl, fun q hq => by rw [hX] at hq; simp at hq⟩ ?_
  intro i hi
  by_cases hil : i < 256
  · have hw : IntKind.u32.wrap (i : Int) = ((crcN 0 i : Nat) : Int) := wrap32 i (by omega) (by omega)
    repeat' (first |with_reducible (first |refine zag ?_|refine zaa ?_|refine zaf ?_|refine zac ?_|refine zah ?_|refine zae ?_)|refine zab rfl rfl True.intro ?_|((first |refine zad rfl ?_ ?_)<;>intro<;>try (first |(exfalso;omega)))|fail)
    refine T.loop hL (fun k : Nat => [(0, .pv 0 0), (1, .pv 1 0), (4, .i .i64 i), (2, .i .i64 i), (3, .i .u32 (crcN k i : Nat)), (9, .i .i64 k)]) (fun _ => [(1, .var (tabC i)), (0, .var (tabC 0))]) (fun k => k ≤ 8) (fun k => 8 - k) 0 (by omega)
      ⟨⟨rfl, rfl, rfl, rfl, congrArg (D.i .u32) hw, rfl, trivial⟩, ⟨rfl, rfl, trivial⟩, okT i 0 rfl, fun q hq => by rw [hX] at hq; simp at hq⟩ ?_
    intro k hk
    by_cases hk8 : k < 8
    · have hlt := zeH (n := i) (by omega) k
      have ha := zlN _ hlt
      have hs := shr1 (crcN k i)
      have hx := xor32 (crcN k i / 2) 3988292384 (by omega) (by decide)
      have hsu := zeV k i
      unfold crcS at hsu
      by_cases hodd : crcN k i % 2 = 1
      · rw [if_pos hodd] at hsu
        rw [hodd] at ha
        repeat' (first |with_reducible (first |refine zag ?_|refine zaa ?_|refine zaf ?_|refine zac ?_|refine zah ?_|refine zae ?_|refine zai ?_)|refine zab rfl rfl True.intro ?_|((first |refine zad rfl ?_ ?_)<;>intro<;>try (first |contradiction|(exfalso;omega)))|((first |refine zab rfl rfl ?_ ?_);focus (first |omega))|fail)
        all_goals first | (exfalso; rename_i hz; rw [ha] at hz; exact hz rfl) | exact ⟨k + 1, by omega, by omega, ⟨rfl, rfl, rfl, rfl, congrArg (D.i .u32) (by rw [hs, hsu, ← hx]; rfl), congrArg (D.i .i64) (by omega), trivial⟩, ⟨rfl, rfl, trivial⟩, okT i 0 rfl, fun q hq => by rw [hX] at hq; simp at hq⟩
      · rw [if_neg hodd] at hsu
        rw [show crcN k i % 2 = 0 by omega] at ha
        repeat' (first |with_reducible (first |refine zag ?_|refine zaa ?_|refine zaf ?_|refine zac ?_|refine zah ?_|refine zae ?_|refine zai ?_)|refine zab rfl rfl True.intro ?_|((first |refine zad rfl ?_ ?_)<;>intro<;>try (first |(exfalso;omega)))|((first |refine zab rfl rfl ?_ ?_);focus (first |omega))|fail)
        all_goals first | (exfalso; rename_i hz; rw [ha] at hz; revert hz; decide) | exact ⟨k + 1, by omega, by omega, ⟨rfl, rfl, rfl, rfl, congrArg (D.i .u32) (by rw [hs, hsu]), congrArg (D.i .i64) (by omega), trivial⟩, ⟨rfl, rfl, trivial⟩, okT i 0 rfl, fun q hq => by rw [hX] at hq; simp at hq⟩
    · have : k = 8 := by omega
      subst this
      have hp := zlE hil
      repeat' (first |refine ziA (k := 1) (d := .i .u32 (crcE i : Nat)) rfl rfl rfl rfl rfl (by rw [zaV];simp only [D.cells, List.length_cons, List.length_nil];omega) rfl rfl ?_|with_reducible (first |refine zag ?_|refine zaa ?_|refine zaf ?_|refine zac ?_|refine zan ?_|refine zai ?_|refine zao ?_)|refine zab rfl rfl True.intro ?_|refine zak rfl ?_|((first |refine zab rfl rfl ?_ ?_);focus (first |omega))|refine zat rfl ?_|fail)
      all_goals exact ⟨i + 1, by omega, by omega, ⟨rfl, rfl, congrArg (D.i .i64) (by omega), trivial⟩, ⟨by rw [← hp]; simp [look, D.cells], rfl, trivial⟩, okT (i + 1) 0 rfl, fun q hq => by rw [hX] at hq; simp at hq⟩
  · have : i = 256 := by omega
    subst this
    have ht : List.take 256 (List.drop 0 (tabC 256)) = tabL := List.take_of_length_le (by rw [List.drop_zero, zaV]; omega)
    have hm : tabL.map D.shut = tabL := by
      refine (List.map_congr_left fun x hx => ?_).trans (List.map_id _)
      obtain ⟨j, _, rfl⟩ := List.mem_map.1 hx
      split <;> rfl
    have hpc : putCells (tabC 0) 0 tabL = tabL := by
      unfold putCells
      rw [List.take_zero, List.nil_append, show tabL.length = 256 from zaV 256, List.drop_eq_nil_of_le (by rw [zaV]; omega), List.append_nil]
    repeat' (first |refine zjT (k := 1) (z := (256, true)) (cs := tabC 256) (d := .ag tabL) rfl rfl rfl (congrArg D.ag ht) (by show 0 + 256 ≤ (tabC 256).length;rw [zaV];omega) rfl ?_|refine ziA (k := 0) (d := .ag tabL) rfl rfl rfl rfl (zaV 256) (by show 0 + tabL.length ≤ (tabC 0).length;rw [zaV, show tabL.length = 256 from zaV 256];omega) rfl (zck 256 D.one fun _ => rfl) ?_|with_reducible (first |refine zag ?_|refine zaa ?_|refine zaf ?_|refine zac ?_|refine zar ?_|refine zan ?_|refine zao ?_)|refine zab rfl rfl True.intro ?_|refine zak rfl ?_|refine zat rfl ?_|refine zmS rfl rfl rfl (by show (putCells (tabC 0) 0 tabL).length = 256;rw [hpc];exact zaV 256) (by show D.ag ((putCells (tabC 0) 0 tabL).map D.shut) = _;rw [hpc, hm])|fail)

section
variable {X : Ctx} {n : Nat} {all rest : List Oper} {fr : Fr} {ow : Ow} {tr : List (List Nat × List Nat)} {K : Fr → Ow → List (List Nat × List Nat) → Prop}
theorem zmA {t : Nat} {ty ty' : TypeId} {x : Operand} {ps : String} {af : Array Edge} {cs : List D} (d : D) (hx : ev fr x = .rf cs 0) (hz : B.sz ty = some (1, false)) (hcs : cs = [d]) (hn : Nat.blt t n = true)
    (h : CT Tryz.prog X n all rest ((t, d) :: fr) ow (tr ++ [([], [])]) K) : CT Tryz.prog X n all (⟨some t, .load ty x, ty', ps, af, none⟩ :: rest) fr ow tr K := by
  refine zab (d := d) (p := partP (1, false) cs 0) (rd := []) ?_ hn ?_ h
  · show loadD B _ ty (ev fr x) = _
    rw [hx, hcs]
    unfold loadD
    rw [hz]
    exact zbs _ _
  · subst hcs
    exact Nat.le_refl 1
end
theorem okN {fr : Fr} (h : fr.all (fun x => x.2.okIn [3]) = true) : okAll [3] fr [(3, .var tabL)] = true := by
  unfold okAll
  rw [h]
  show (true && ((tabC 256).all (D.okIn [3]) && true)) = true
  rw [zck 256 (D.okIn [3]) fun _ => rfl]
  rfl
theorem ziz {s : Nat} {v : Int} (_hs : s < 4294967296) :
    0 ≤ bits .xor .u8 (IntKind.u8.wrap (s : Int)) v ∧ bits .xor .u8 (IntKind.u8.wrap (s : Int)) v < 256 ∧ bits .xor .u8 (IntKind.u8.wrap (s : Int)) v = (((s % 256) ^^^ (v % 256).toNat : Nat) : Int) ∧ (s % 256) ^^^ (v % 256).toNat < 256 := by
  have e : IntKind.u8.wrap (s : Int) = ((s % 256 : Nat) : Int) := by rw [wrap_u8]; omega
  have h1 := xor8m (s % 256) v (by omega)
  have h2 : (s % 256) ^^^ (v % 256).toNat < 256 := Nat.xor_lt_two_pow (n := 8) (by omega) (by omega)
  rw [e, h1]
  exact ⟨by omega, by omega, rfl, h2⟩
set_option maxRecDepth 100000 in
set_option maxHeartbeats 1000000 in
theorem zkT (st n : Nat) (f : Nat → List D) (hst : st < 4294967296) (hf : ∀ j, j < n → ∃ v, f j = [.i .u8 v]) (hn : n ≤ 4194304) : Ctr Tryz.prog 147 [.ag tabL, .i .u32 (st : Nat), .sl 1 n f] (.i .u32 (crcA st (btsL n f) : Nat)) := by
  refine zaE Tryz.func147 rfl Tryz.ntmps147 Tryz.results147 rfl rfl fun X hL hX => ?_
  repeat' (first |refine zmD 3 (d := .ag tabL) rfl rfl (zck 256 D.one fun _ => rfl) rfl rfl ?_|with_reducible (first |refine zag ?_|refine zaa ?_|refine zaf ?_|refine zac ?_|refine zae ?_)|refine zab rfl rfl True.intro ?_|fail)
  refine T.loop hL (fun i : Nat => [(3, .pv 3 0), (9, .sl 1 n f), (10, .i .i64 n), (11, .i .i64 i), (1, .i .u32 (crcA st ((btsL n f).take i) : Nat))]) (fun _ => [(3, .var tabL)]) (fun i => i ≤ n) (fun i => n - i) 0 (Nat.zero_le _)
    ⟨⟨rfl, rfl, rfl, rfl, rfl, trivial⟩, ⟨rfl, trivial⟩, okN rfl, fun q hq => by rw [hX] at hq; simp at hq⟩ ?_
  intro i hi
  by_cases hil : i < n
  · obtain ⟨v, hv⟩ := hf (i : Int).toNat (by omega)
    have hs := zdk (b := (btsL n f).take i) hst
    have htk := zfc (b := btsL n f) (s := st) (i := i) (by rw [zdq]; exact hil)
    rw [zkb hil] at htk
    have hbv : byteV (f i) = (v % 256).toNat := by
      rw [Int.toNat_natCast] at hv
      rw [hv]
      rfl
    rw [hbv] at htk
    generalize crcA st ((btsL n f).take i) = s at *
    obtain ⟨c1, c2, c3, c4⟩ := ziz (v := v) hs
    have hx := xor32 (s / 256) (crcE ((s % 256) ^^^ (v % 256).toNat)) (by omega) (zgo c4)
    have hsh : (s : Int) / 2 ^ (8 : Int).toNat = ((s / 256 : Nat) : Int) := by
      show (s : Int) / 2 ^ 8 = _
      omega
    have hd : partD (1, false) tabL (0 + (bits .xor .u8 (IntKind.u8.wrap (s : Int)) v).toNat * 1) = .i .u32 (crcE ((s % 256) ^^^ (v % 256).toNat) : Nat) := by
      show tabL.getD (0 + (bits .xor .u8 (IntKind.u8.wrap (s : Int)) v).toNat * 1) .any = _
      rw [c3, Int.toNat_natCast, Nat.mul_one, Nat.zero_add]
      exact zlC c4
    repeat' (first |refine zmA _ rfl rfl hv rfl ?_|refine zjT (k := 3) (z := (1, false)) (cs := tabL) rfl rfl rfl hd (by show 0 + (bits .xor .u8 (IntKind.u8.wrap (s : Int)) v).toNat * 1 + 1 ≤ tabL.length;rw [show tabL.length = 256 from zaV 256];omega) rfl ?_|with_reducible (first |refine zag ?_|refine zaa ?_|refine zaf ?_|refine zac ?_|refine zah ?_|refine zae ?_|refine zai ?_)|refine zab rfl rfl True.intro ?_|((first |refine zad rfl ?_ ?_)<;>intro<;>try (first |(exfalso;omega)))|((first |refine zab rfl rfl ?_ ?_);focus (first |omega))|fail)
    all_goals exact ⟨i + 1, by omega, by omega, ⟨rfl, rfl, rfl, congrArg (D.i .i64) (by omega), congrArg (D.i .u32) (by rw [htk, ← hx, hsh]), trivial⟩, ⟨rfl, trivial⟩, okN rfl, fun q hq => by rw [hX] at hq; simp at hq⟩
  · have : i = n := by omega
    subst this
    repeat' (first |with_reducible (first |refine zag ?_|refine zaa ?_|refine zaf ?_|refine zac ?_|refine zar ?_|refine zan ?_|refine zao ?_)|refine zab rfl rfl True.intro ?_|((first |refine zad rfl ?_ ?_)<;>intro<;>try (first |(exfalso;omega)))|refine zat rfl ?_|refine zau rfl ?_|fail)
    all_goals rw [List.take_of_length_le (by rw [zdq]; omega)]
set_option maxRecDepth 100000 in
theorem zfU (n : Nat) (f : Nat → List D) (hf : ∀ j, j < n → ∃ v, f j = [.i .u8 v]) (hn : n ≤ 4194304) : Ctr Tryz.prog 100 [.sl 1 n f] (.i .u32 (crcOf (btsL n f) : Nat)) := by
  have c1 := zja
  have c2 := zkT 4294967295 n f (by decide) hf hn
  have hs := zdk (b := btsL n f) (s := 4294967295) (by decide)
  have hx := xor32 (crcA 4294967295 (btsL n f)) 4294967295 hs (by decide)
  rw [zmf hs] at hx
  have hfr : (([D.ag tabL, .i .u32 ((4294967295 : Nat) : Int), .sl 1 n f] : List D).map D.shut).all D.free = true := by
    show ((tabC 256).all D.free1 && true) = true
    rw [zck 256 D.free1 fun _ => rfl]
    rfl
  refine zaE Tryz.func100 rfl Tryz.ntmps100 Tryz.results100 rfl rfl fun X hL hX => ?_
  repeat' (first |refine zaj (f := 148) rfl rfl Tryz.call148 rfl c1 ?_|refine zaj (f := 147) rfl rfl Tryz.call147 hfr c2 ?_|with_reducible (first |refine zag ?_|refine zaa ?_|refine zaf ?_|refine zac ?_|refine zar ?_)|refine zab rfl rfl True.intro ?_|refine zau rfl (congrArg (D.i .u32) hx)|fail)
theorem ziO (c : Nat) (hc : c < 256) : Ctr Tryz.prog 206 [.i .u8 (c : Nat)] (.i .u32 (crcE c : Nat)) := by
  have hw : IntKind.u32.wrap (c : Int) = ((crcN 0 c : Nat) : Int) := wrap32 c (by omega) (by omega)
  refine zaE Tryz.func206 rfl Tryz.ntmps206 Tryz.results206 rfl rfl fun X hL hX => ?_
  repeat' (first |with_reducible (first |refine zag ?_|refine zaa ?_|refine zaf ?_|refine zac ?_|refine zae ?_)|refine zab rfl rfl True.intro ?_|fail)
  refine T.loop hL (fun k : Nat => [(3, .i .u32 (crcN k c : Nat)), (4, .i .i64 k)]) (fun _ => []) (fun k => k ≤ 8) (fun k => 8 - k) 0 (by omega)
    ⟨⟨congrArg (D.i .u32) hw, rfl, trivial⟩, trivial, rfl, fun q hq => by rw [hX] at hq; simp at hq⟩ ?_
  intro k hk
  by_cases hk8 : k < 8
  · have hlt := zeH (n := c) (by omega) k
    have hx := xor32 (crcN k c / 2) 3988292384 (by omega) (by decide)
    have hsu := zeV k c
    unfold crcS at hsu
    have hw2 : IntKind.u32.wrap ((crcN k c : Int) / 2) = (crcN k c : Int) / 2 := wrap32 _ (by omega) (by omega)
    have hdv : (crcN k c : Int) / 2 = ((crcN k c / 2 : Nat) : Int) := by omega
    by_cases hodd : crcN k c % 2 = 1
    · rw [if_pos hodd] at hsu
      repeat' (first |with_reducible (first |refine zag ?_|refine zaa ?_|refine zaf ?_|refine zac ?_|refine zah ?_|refine zae ?_|refine zai ?_)|refine zab rfl rfl True.intro ?_|((first |refine zad rfl ?_ ?_)<;>intro<;>try (first |(exfalso;omega)))|((first |refine zab rfl rfl ?_ ?_);focus (first |omega))|fail)
      all_goals first | (exfalso; omega) | exact ⟨k + 1, by omega, by omega, ⟨congrArg (D.i .u32) (by rw [hsu, ← hx, ← hdv]; rfl), congrArg (D.i .i64) (by omega), trivial⟩, trivial, rfl, fun q hq => by rw [hX] at hq; simp at hq⟩
    · rw [if_neg hodd] at hsu
      repeat' (first |with_reducible (first |refine zag ?_|refine zaa ?_|refine zaf ?_|refine zac ?_|refine zah ?_|refine zae ?_|refine zai ?_)|refine zab rfl rfl True.intro ?_|((first |refine zad rfl ?_ ?_)<;>intro<;>try (first |(exfalso;omega)))|((first |refine zab rfl rfl ?_ ?_);focus (first |omega))|fail)
      all_goals first | (exfalso; omega) | exact ⟨k + 1, by omega, by omega, ⟨congrArg (D.i .u32) (by rw [hsu, ← hdv]), congrArg (D.i .i64) (by omega), trivial⟩, trivial, rfl, fun q hq => by rw [hX] at hq; simp at hq⟩
  · have : k = 8 := by omega
    subst this
    repeat' (first |with_reducible (first |refine zag ?_|refine zaa ?_|refine zaf ?_|refine zac ?_|refine zar ?_|refine zan ?_|refine zao ?_)|refine zab rfl rfl True.intro ?_|refine zak rfl ?_|refine zat rfl ?_|refine zau rfl rfl|fail)
set_option maxRecDepth 100000 in
set_option maxHeartbeats 1000000 in
theorem zjM (st n : Nat) (f : Nat → List D) (hst : st < 4294967296) (hf : ∀ j, j < n → ∃ v, f j = [.i .u8 v]) (hn : n ≤ 4194304) : Ctr Tryz.prog 154 [.i .u32 (st : Nat), .sl 1 n f] (.i .u32 (crcA st (btsL n f) : Nat)) := by
  refine zaE Tryz.func154 rfl Tryz.ntmps154 Tryz.results154 rfl rfl fun X hL hX => ?_
  repeat' (first |with_reducible (first |refine zag ?_|refine zaa ?_|refine zaf ?_|refine zac ?_|refine zae ?_)|refine zab rfl rfl True.intro ?_|fail)
  refine T.loop hL (fun i : Nat => [(0, .i .u32 (crcA st ((btsL n f).take i) : Nat)), (1, .sl 1 n f), (5, .i .i64 i)]) (fun _ => []) (fun i => i ≤ n) (fun i => n - i) 0 (Nat.zero_le _)
    ⟨⟨rfl, rfl, rfl, trivial⟩, trivial, rfl, fun q hq => by rw [hX] at hq; simp at hq⟩ ?_
  intro i hi
  by_cases hil : i < n
  · obtain ⟨v, hv⟩ := hf (i : Int).toNat (by omega)
    have hs := zdk (b := (btsL n f).take i) hst
    have htk := zfc (b := btsL n f) (s := st) (i := i) (by rw [zdq]; exact hil)
    rw [zkb hil] at htk
    have hbv : byteV (f i) = (v % 256).toNat := by
      rw [Int.toNat_natCast] at hv
      rw [hv]
      rfl
    rw [hbv] at htk
    generalize crcA st ((btsL n f).take i) = s at *
    have hm : ((s : Int) % 256) = ((s % 256 : Nat) : Int) := by omega
    have hd : ((s : Int) / 256) = ((s / 256 : Nat) : Int) := by omega
    obtain ⟨c1, c2, c3, c4⟩ := ziz (s := s % 256) (v := v) (by omega)
    rw [Nat.mod_mod] at c3 c4
    have hw2 : IntKind.u32.wrap ((s : Int) / 256) = (s : Int) / 256 := wrap32 _ (by omega) (by omega)
    have ce := ziO _ c4
    have ce' : Ctr Tryz.prog 206 [.i .u8 (bits .xor .u8 (IntKind.u8.wrap ((s : Int) % 256)) v)] (.i .u32 (crcE ((s % 256) ^^^ (v % 256).toNat) : Nat)) := by rw [hm, c3]; exact ce
    have hx := xor32 (s / 256) (crcE ((s % 256) ^^^ (v % 256).toNat)) (by omega) (zgo c4)
    repeat' (first |refine zmA _ rfl rfl hv rfl ?_|refine zaj (f := 206) rfl rfl Tryz.call206 rfl ce' ?_|with_reducible (first |refine zag ?_|refine zaa ?_|refine zaf ?_|refine zac ?_|refine zah ?_|refine zae ?_|refine zai ?_)|refine zab rfl rfl True.intro ?_|((first |refine zad rfl ?_ ?_)<;>intro<;>try (first |(exfalso;omega)))|((first |refine zab rfl rfl ?_ ?_);focus (first |omega))|fail)
    all_goals exact ⟨i + 1, by omega, by omega, ⟨congrArg (D.i .u32) (by rw [htk, ← hx, hd]), rfl, congrArg (D.i .i64) (by omega), trivial⟩, trivial, rfl, fun q hq => by rw [hX] at hq; simp at hq⟩
  · have : i = n := by omega
    subst this
    repeat' (first |with_reducible (first |refine zag ?_|refine zaa ?_|refine zaf ?_|refine zac ?_|refine zar ?_|refine zan ?_|refine zao ?_)|refine zab rfl rfl True.intro ?_|((first |refine zad rfl ?_ ?_)<;>intro<;>try (first |(exfalso;omega)))|refine zat rfl ?_|refine zau rfl ?_|fail)
    all_goals rw [List.take_of_length_le (by rw [zdq]; omega)]
theorem zeh (n : Nat) (f : Nat → List D) (hf : ∀ j, j < n → ∃ v, f j = [.i .u8 v]) (hn : n ≤ 4194304) : Ctr Tryz.prog 106 [.sl 1 n f] (.i .u32 (crcOf (btsL n f) : Nat)) := by
  have c2 := zjM 4294967295 n f (by decide) hf hn
  have hs := zdk (b := btsL n f) (s := 4294967295) (by decide)
  have hw : IntKind.u32.wrap (4294967295 - ((crcA 4294967295 (btsL n f) : Nat) : Int)) = ((crcOf (btsL n f) : Nat) : Int) := by
    unfold crcOf
    rw [wrap32 _ (by omega) (by omega)]
    omega
  refine zaE Tryz.func106 rfl Tryz.ntmps106 Tryz.results106 rfl rfl fun X hL hX => ?_
  repeat' (first |refine zaj (f := 154) rfl rfl Tryz.call154 rfl c2 ?_|with_reducible (first |refine zag ?_|refine zaa ?_|refine zaf ?_|refine zac ?_|refine zar ?_)|refine zab rfl rfl True.intro ?_|refine zau rfl (congrArg (D.i .u32) hw)|fail)

theorem zlW {vs : Array Value} (h : vs.size = 2) : vs = #[vs.getD 0 undef, vs.getD 1 undef] := by
  obtain ⟨l⟩ := vs
  match l, h with
  | [a, b], _ => rfl
theorem zlp {w : World} {S : Cells} (hv : ∀ b o, S b o → b < w.heap.size) (hg : GOk S w) : Hist { w0 := w, S0 := S, L := fun _ => False } w S := zdY w S _ hv hg
def splitL (s sep : List UInt8) : List (List UInt8) := (Lib.splitB ⟨sep.toArray⟩ 0 (Lib.countB ⟨s.toArray⟩ ⟨sep.toArray⟩) ⟨s.toArray⟩).map fun b => b.data.toList
def wxF (l : List (List UInt8)) : Nat → List D := fun i => [.s (l.getD i [])]
theorem zij (s sep : List UInt8) (h1 : 1 ≤ sep.length) : (splitL s sep).length = Lib.countB ⟨s.toArray⟩ ⟨sep.toArray⟩ + 1 ∧ (splitL s sep).length ≤ s.length + 1 := by
  have h2 : 1 ≤ (ByteArray.mk sep.toArray).size := by simpa [ByteArray.size] using h1
  have h3 := Lib.splitB_all ⟨sep.toArray⟩ h2 0 _ ⟨s.toArray⟩ rfl
  have h4 := Lib.countB_le ⟨sep.toArray⟩ h2 (ByteArray.mk s.toArray).size ⟨s.toArray⟩ (Nat.le_refl _)
  have h5 : (ByteArray.mk s.toArray).size = s.length := by simp [ByteArray.size]
  unfold splitL
  rw [List.length_map, h3]
  omega
theorem zlR (s sep : List UInt8) (hs : s.length ≤ 4194304) (h1 : 1 ≤ sep.length) : Ctr Tryz.prog 97 [.s s, .s sep] (.sl 1 (splitL s sep).length (wxF (splitL s sep))) := by
  intro w S vs hv hg hn hr
  have h0 := hr 0 (by simp)
  have h2 := hr 1 (by simp)
  rw [zlW hn]
  generalize vs.getD 0 undef = v0 at *
  generalize vs.getD 1 undef = v1 at *
  cases h0
  cases h2
  obtain ⟨m, _, hm⟩ := hg.big 3 rfl
  obtain ⟨hl1, hl2⟩ := zij s sep h1
  refine (Tryz.strings_Split ⟨s.toArray⟩ ⟨sep.toArray⟩ m w (by simp [ByteArray.size]; omega) hm (by simpa [ByteArray.size] using h1)).mono ?_
  rintro e w' ⟨rfl, rfl⟩
  rw [← hl1]
  have hc := Chg.alloc w S hv (.cells ((Lib.splitB ⟨sep.toArray⟩ 0 (Lib.countB ⟨s.toArray⟩ ⟨sep.toArray⟩) ⟨s.toArray⟩).map Value.string).toArray 9)
  refine ⟨_, fun b o => S b o ∨ (b = w.heap.size ∧ o < (splitL s sep).length), rfl, zgF (c := fun i _ => .string ⟨((splitL s sep).getD i []).toArray⟩) (heap_alloc_new w _) (Nat.le_refl _) (by unfold maxLen; omega) (fun i j hi hj => ?_) (fun i j hi hj => .inr ⟨rfl, by omega⟩) (fun i hi => ⟨rfl, rfl⟩) (fun i j hi hj => ?_), ?_⟩
  · obtain rfl : j = 0 := by omega
    rw [Nat.mul_one, Nat.add_zero]
    unfold splitL at hi ⊢
    rw [List.length_map] at hi
    simp only [List.getElem?_toArray, List.getElem?_map, List.getD_eq_getElem?_getD, List.getElem?_eq_getElem hi, Option.map_some, Option.getD_some]
  · obtain rfl : j = 0 := by omega
    exact .s _ _
  · have := zdY w S (fun _ => False) hv hg
    exact this.chg hc (fun b hb => by cases hb) (fun _ _ h => .inl h) (fun b o h => by
      rcases h with h | ⟨rfl, _⟩
      · exact .inl h
      · exact .inr ⟨.inl (Nat.le_refl _), by simp⟩)
end Go.Proofs.YtkkaamhocpmhkaaGreatDoor.Flow
