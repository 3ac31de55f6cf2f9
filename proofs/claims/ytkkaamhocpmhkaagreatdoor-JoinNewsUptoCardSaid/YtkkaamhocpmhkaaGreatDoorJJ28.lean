/- The texts H27, one behind the other. -/
import Derived.Test.YtkkaamhocpmhkaaGreatDoorJJ27
namespace Go.Proofs.YtkkaamhocpmhkaaGreatDoor.Flow
open Go
section
variable {X : Ctx} {n : Nat} {all rest : List Oper} {fr : Fr} {ow : Ow} {tr : List (List Nat × List Nat)} {K : Fr → Ow → List (List Nat × List Nat) → Prop}
variable {t g u k : Nat} {want : Bool} {ty ty' ty2 : TypeId} {ps : String} {af : Array Edge} {x y : Operand}
theorem zrC {te : TypeId} (hp : Tryz.prog.underlying ty = some (.pointer te)) (hu : dstAt all g = some u) (hg : getD' u fr = .b want) (hx : ev fr x = .v (.pointer none)) (hy : ev fr y = .v (.pointer none)) (hn : Nat.blt t n = true)
    (h : CT Tryz.prog X n all rest ((t, .b true) :: fr) ow (tr ++ [([], [])]) K) : CT Tryz.prog X n all (⟨some t, .binOp .eql ty x y ty2, ty', ps, af, some (g, want)⟩ :: rest) fr ow tr K :=
  CT.cons (e := ⟨.b true, [], []⟩) (.guarded rfl hu hg (zni (o := ⟨some t, .binOp .eql ty x y ty2, ty', ps, af, some (g, want)⟩) hp rfl hx hy (show t < n by simpa using hn))) (zaE ..) rfl h
theorem zqs {te : TypeId} (hp : Tryz.prog.underlying ty = some (.pointer te)) (hu : dstAt all g = some u) (hg : getD' u fr = .b want) (hx : ev fr x = .pv k 0) (hy : ev fr y = .v (.pointer none)) (hn : Nat.blt t n = true)
    (h : CT Tryz.prog X n all rest ((t, .b false) :: fr) ow (tr ++ [([], [])]) K) : CT Tryz.prog X n all (⟨some t, .binOp .eql ty x y ty2, ty', ps, af, some (g, want)⟩ :: rest) fr ow tr K :=
  CT.cons (e := ⟨.b false, [], []⟩) (.guarded rfl hu hg (zhq (neg := false) (o := ⟨some t, .binOp .eql ty x y ty2, ty', ps, af, some (g, want)⟩) hp rfl hx hy (show t < n by simpa using hn))) (zaE ..) rfl h
end
set_option maxRecDepth 100000 in
set_option maxHeartbeats 16000000 in
theorem zmu (s : Tx) (j : JnR) (hs : s.length ≤ 4194304) (h1 : j.only.length ≤ 4194304) (h2 : j.notl.length ≤ 4194304) :
    Ctr Tryz.prog 5 [.s s, .ag (jnP j)] (.b true) := by
  have cl := zfo
  have m1 := (zdi s j [] hs h1 h2 (by decide) (fun i => by rw [show ([] : List AtR).getD i ([], v03) = ([], v03) by simp]; exact ⟨by decide, by decide⟩)).weak3 (.refl _) (.refl _) (.nil 4 _)
  refine zax Tryz.func5 rfl Tryz.ntmps5 Tryz.results5 rfl rfl fun X hL hX => ?_
  cases hm : muchJ s j [] with
  | true =>
    rw [hm] at m1
    repeat' (first |refine zae (f := 7) rfl rfl Tryz.call7 rfl m1 ?_|refine zae (f := 8) rfl rfl Tryz.call8 rfl cl ?_|with_reducible (first |refine zah ?_|refine zaa ?_|refine zag ?_|refine zad ?_|refine zan ?_|refine zam ?_)|refine zab rfl rfl True.intro ?_|refine zau rfl ?_|((first |refine zab rfl rfl ?_ ?_|refine zav rfl rfl ?_ ?_);focus (first |exact le_ rfl|((repeat' refine And.intro ?_ ?_)<;>omega)|((repeat' refine And.intro ?_ ?_)<;>first |rfl)))|refine zaq rfl ?_|fail)
    all_goals rfl
  | false =>
  rw [hm] at m1
  obtain ⟨s1, s2, s3, s4⟩ := zfq hm
  have cD := zif s j (by omega) h1 h2
  by_cases ht : (tabJ s j).2 = 0
  rotate_left
  · have cN := zge s j (by omega) h1 h2 ht
    have cC := zhM
    have cF := zja
    generalize tabJ s j = tb at *
    obtain ⟨rows, e⟩ := tb
    dsimp only at cN cD ht
    have cE := zeT e
    repeat' (first |refine zrC zaZ rfl rfl rfl rfl rfl ?_|refine zae (f := 7) rfl rfl Tryz.call7 rfl m1 ?_|refine zae (f := 9) rfl rfl Tryz.call9 rfl cN ?_|refine zae (f := 10) rfl rfl Tryz.call10 rfl cD ?_|refine zae (f := 18) rfl rfl Tryz.call18 rfl cE ?_|refine zae (f := 19) rfl rfl Tryz.call19 rfl cC ?_|refine zae (f := 20) rfl rfl Tryz.call20 rfl cF ?_|refine zaw (f := 8) rfl rfl rfl rfl Tryz.call8 rfl cl ?_|with_reducible (first |refine zah ?_|refine zaa ?_|refine zag ?_|refine zad ?_|refine zan ?_|refine zai ?_|refine zam ?_)|refine zab rfl rfl True.intro ?_|refine zaj rfl rfl rfl rfl True.intro ?_|refine zal rfl ?_|((first |refine zaR rfl ?_ ?_|refine zaS rfl ?_ ?_|refine zbX rfl rfl ?_ ?_)<;>intro<;>try (first |(exfalso;omega)))|((first |refine zab rfl rfl ?_ ?_|refine zav rfl rfl ?_ ?_);focus (first |omega|exact le_ rfl|((repeat' refine And.intro ?_ ?_)<;>omega)|((repeat' refine And.intro ?_ ?_)<;>first |rfl)))|refine zaq rfl ?_|fail)
    all_goals first
      | rfl
      | (exfalso; omega)
      | (exfalso; rename_i q; rw [show (e != 0) = true from bne_iff_ne.2 ht] at q; cases q; done)
      | trace_state
  have cN := zeD s j (by omega) h1 h2 ht
  obtain ⟨hT, _⟩ := zdq ht
  generalize tabJ s j = tb at *
  obtain ⟨rows, e⟩ := tb
  dsimp only at cN cD ht hT
  subst ht
  have cE := zeT 0
  have cA := ziq rows j s.length hT (by omega)
  have cB := zhd rows j s.length hT (by omega) h1 h2
  have cC := zjf rows j s.length hT (by omega)
  have cG := zio rows j s.length hT (by omega) h1 h2
  have f3 := (zaI hT.good).1
  have hok := zem rows j
  have l1 : (columnsJ rows j).length = (fieldsJ rows j).length := by unfold columnsJ fieldsJ; rw [List.length_map, List.length_map]
  have l2 : (columnsJ rows j).length ≤ (namesR rows).length := by
    unfold columnsJ colsR
    rw [List.length_map]
    exact Nat.le_trans (List.length_filter_le ..) (by rw [List.length_range]; exact Nat.le_refl _)
  generalize columnsJ rows j = la at *
  generalize fieldsJ rows j = lf at *
  unfold tblO at cN cA cC hok
  clear hT
  repeat' (first |refine zqs zaZ rfl rfl rfl rfl rfl ?_|refine zae (f := 7) rfl rfl Tryz.call7 rfl m1 ?_|refine ziT (f := 9) [] [(70, .var (tblP rows j (.gs 101 1 (colsR rows j).length (colF (colsR rows j))))), (68, .mp (firstE (keysR rows (colK rows j)) (rows.length - 1))), (101, .row 3 1 (colsR rows j).length)] [] [70, 68, 101] rfl rfl (by decide) (fun _ h => by cases h) (new3 rfl rfl rfl) rfl rfl Tryz.call9 trivial rfl rfl hok rfl cN ?_|refine zae (f := 10) rfl rfl Tryz.call10 rfl cD ?_|refine zae (f := 18) rfl rfl Tryz.call18 rfl cE ?_|refine zbp (f := 19) [(70, .var (tblP rows j (.gs 101 1 (colsR rows j).length (colF (colsR rows j))))), (68, .mp (firstE (keysR rows (colK rows j)) (rows.length - 1))), (101, .row 3 1 (colsR rows j).length)] [70, 68, 101] rfl (by decide) rfl rfl Tryz.call19 ⟨rfl, rfl, rfl, trivial⟩ rfl hok rfl cA ?_|refine zae (f := 21) rfl rfl Tryz.call21 rfl cB ?_|refine zbp (f := 20) [(70, .var (tblP rows j (.gs 101 1 (colsR rows j).length (colF (colsR rows j))))), (68, .mp (firstE (keysR rows (colK rows j)) (rows.length - 1))), (101, .row 3 1 (colsR rows j).length)] [70, 68, 101] rfl (by decide) rfl rfl Tryz.call20 ⟨rfl, rfl, rfl, trivial⟩ rfl hok rfl cC ?_|refine zae (f := 22) rfl rfl Tryz.call22 rfl cG ?_|with_reducible (first |refine zah ?_|refine zaa ?_|refine zag ?_|refine zad ?_|refine zai ?_|refine zaf ?_|refine zaC ?_)|refine zab rfl rfl True.intro ?_|refine zaj rfl rfl rfl rfl True.intro ?_|refine zal rfl ?_|((first |refine zaR rfl ?_ ?_|refine zbX rfl rfl ?_ ?_)<;>intro<;>try (first |(exfalso;omega)))|((first |refine zab rfl rfl ?_ ?_|refine zav rfl rfl ?_ ?_);focus (first |exact le_ rfl|((repeat' refine And.intro ?_ ?_)<;>omega)|((repeat' refine And.intro ?_ ?_)<;>first |rfl)))|with_reducible refine ⟨by kernel_rfl, ?_⟩|fail)
  all_goals try (exfalso; omega)
  clear cN cA cB cC cG cD m1 cE hok
  refine T.loop hL (fun i : Nat => [(10, .sl 1 la.length (Csv.rowF la)), (11, .sl 1 la.length (Csv.rowF la)), (12, .sl 2 lf.length (prF lf)), (13, .sl 2 lf.length (prF lf)), (14, .i .i64 i)]) (fun _ => [])
    (fun i => i ≤ la.length) (fun i => la.length - i) 0 (Nat.zero_le _)
    ⟨⟨rfl, rfl, rfl, rfl, rfl, trivial⟩, trivial, rfl, by rw [hX]; simp⟩ ?_
  intro i g1
  try dsimp only at g1 ⊢
  have hnat : (i : Int).toNat = i := Int.toNat_natCast i
  by_cases hi : i < la.length
  rotate_left
  · have hi' : ¬ (i : Int) < (la.length : Int) := by omega
    repeat' (first |refine zae (f := 8) rfl rfl Tryz.call8 rfl cl ?_|with_reducible (first |refine zah ?_|refine zaa ?_|refine zag ?_|refine zad ?_|refine zan ?_|refine zat ?_|refine zas ?_)|refine zab rfl rfl True.intro ?_|((first |refine zac rfl ?_ ?_)<;>intro<;>try (first |(exfalso;omega)))|refine zaB rfl ?_|refine zaq rfl ?_|fail)
    all_goals rfl
  have hi' : (i : Int) < (la.length : Int) := by omega
  have hi2 : (i : Int) < (lf.length : Int) := by omega
  repeat' (first |with_reducible (first |refine zah ?_|refine zaa ?_|refine zag ?_|refine zad ?_|refine zan ?_|refine zai ?_|refine zaf ?_|refine zao ?_|refine zam ?_|refine zaz ?_|refine zaC ?_)|refine zab rfl rfl True.intro ?_|refine zap rfl rfl rfl ?_|refine zaj rfl rfl rfl rfl True.intro ?_|refine zau rfl ?_|((first |refine zac rfl ?_ ?_|refine zaS rfl ?_ ?_|refine zaT rfl rfl ?_ ?_)<;>intro<;>try (first |(exfalso;omega)))|((first |refine zab rfl rfl ?_ ?_|refine zaj rfl rfl rfl rfl ?_ ?_);focus (first |omega|exact le_ rfl|((repeat' refine And.intro ?_ ?_)<;>omega)))|with_reducible refine ⟨by kernel_rfl, ?_⟩|refine zaq rfl ?_|fail)
  all_goals first
    | exact ⟨i + 1, by omega, by omega, ⟨rfl, rfl, rfl, rfl, rfl, trivial⟩, trivial, rfl, by rw [hX]; simp⟩
    | (exfalso; omega)
    | (exfalso; rename_i q; rw [beq_self_eq_true] at q; cases q; done)
    | (exfalso; rename_i q; rw [beq_self_eq_true, beq_self_eq_true] at q; cases q; done)
    | trace_state
end Go.Proofs.YtkkaamhocpmhkaaGreatDoor.Flow
