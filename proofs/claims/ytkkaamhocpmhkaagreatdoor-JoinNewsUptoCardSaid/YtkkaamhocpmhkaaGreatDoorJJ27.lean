/- The texts H22, H23, H24, H25, H26, one behind the other. -/
import Derived.Test.YtkkaamhocpmhkaaGreatDoorJJ23
import Derived.Test.YtkkaamhocpmhkaaGreatDoorJJ24
import Derived.Test.YtkkaamhocpmhkaaGreatDoorJJ25
import Derived.Test.YtkkaamhocpmhkaaGreatDoorJJ26
namespace Go.Proofs.YtkkaamhocpmhkaaGreatDoor.Flow
open Go
section
variable {X : Ctx} {n : Nat} {all rest : List Oper} {fr : Fr} {ow : Ow} {tr : List (List Nat × List Nat)} {K : Fr → Ow → List (List Nat × List Nat) → Prop}
variable {t : Nat} {ty ty' ty2 : TypeId} {ps : String} {af : Array Edge} {x y : Operand}
theorem zrO {P : Program} {w : World} {tp te : TypeId} (hp : P.underlying tp = some (.pointer te)) (d : Nat) : (Op.equalIn (d + 1) tp (.pointer none) (.pointer none)).run P w = .ok true w := by
  simp [Op.equalIn, run_underlying hp]
set_option maxRecDepth 100000 in
theorem zni {P : Program} {o : Oper} {te : TypeId} (hp : P.underlying ty = some (.pointer te)) (ho : o.op = .binOp .eql ty x y ty2) (hx : ev fr x = .v (.pointer none)) (hy : ev fr y = .v (.pointer none)) (hd : dstOk o.dst n) :
    ∀ F' O', (∀ y ∈ o.op.operands.toList, evF F' y = evF (fF fr) y) → (∀ j ∈ ([] : List Nat), O' j = fO ow j) → StepAt P X n o F' O' (.b true) [] := by
  intro F' O' he hO
  refine zay hd fun a w S r hH hI hr => ?_
  have hx' := hr x
  rw [he x (by simp [ho, Op.operands]), zaX, hx] at hx'
  have hy' := hr y
  rw [he y (by simp [ho, Op.operands]), zaX, hy] at hy'
  generalize hvx : a.eval x = vx at hx'
  generalize hvy : a.eval y = vy at hy'
  cases hx'
  cases hy'
  have hrun := zrO (P := P) (w := w) hp 9999
  refine zaA hH hI rfl ?_ (show Rel S w r (.b true) (.bool _) from .b ..)
  have e1 : binOp .eql ty (.pointer none) (.pointer none) = (do pure (.bool (← Op.equalIn (9999 + 1) ty (.pointer none) (.pointer none)))) := rfl
  simp [execOp, ho, hvx, hvy, eqGuard, e1, hrun, Result.andThen]
set_option maxRecDepth 100000 in
theorem zqj {te : TypeId} (hp : Tryz.prog.underlying ty = some (.pointer te)) (hx : ev fr x = .v (.pointer none)) (hy : ev fr y = .v (.pointer none)) (hn : Nat.blt t n = true)
    (h : CT Tryz.prog X n all rest ((t, .b true) :: fr) ow (tr ++ [([], [])]) K) : CT Tryz.prog X n all (⟨some t, .binOp .eql ty x y ty2, ty', ps, af, none⟩ :: rest) fr ow tr K :=
  CT.cons (e := ⟨.b true, [], []⟩) (.plain rfl (zni (o := ⟨some t, .binOp .eql ty x y ty2, ty', ps, af, none⟩) hp rfl hx hy (show t < n by simpa using hn))) (zaE ..) rfl h
end
abbrev nilT : D := .v (.pointer none)
set_option maxRecDepth 100000 in
set_option maxHeartbeats 4000000 in
theorem zlv (l : List AtR) (hl : l.length ≤ 1048576) : Ctr Tryz.prog 11 [nilT, .sl 4 l.length (atrF l)] (.tu [.sl 4 l.length (atrF l), .b true]) := by
  have cC := (zdK l hl).shut
  refine zax Tryz.func11 rfl Tryz.ntmps11 Tryz.results11 rfl rfl fun X hL hX => ?_
  repeat' (first |refine zfD 50 rfl rfl rfl rfl rfl ?_|refine zqj zaZ rfl rfl rfl ?_|refine zae (f := 37) rfl rfl Tryz.call37 rfl cC ?_|with_reducible (first |refine zah ?_|refine zaa ?_|refine zag ?_|refine zad ?_|refine zan ?_|refine zam ?_)|refine zab rfl rfl True.intro ?_|refine zau rfl ?_|((first |refine zab rfl rfl ?_ ?_);focus (first |exact le_ rfl|((repeat' refine And.intro ?_ ?_)<;>omega)))|refine zaq rfl ?_|fail)
  all_goals first
    | rfl
    | trace_state
set_option maxRecDepth 100000 in
set_option maxHeartbeats 4000000 in
theorem zhM : Ctr Tryz.prog 19 [nilT] .nilS := by
  refine zax Tryz.func19 rfl Tryz.ntmps19 Tryz.results19 rfl rfl fun X hL hX => ?_
  repeat' (first |refine zqj zaZ rfl rfl rfl ?_|with_reducible (first |refine zah ?_|refine zaa ?_|refine zag ?_|refine zad ?_|refine zan ?_|refine zam ?_)|refine zab rfl rfl True.intro ?_|refine zau rfl ?_|refine zaq rfl ?_|fail)
  all_goals first
    | rfl
    | trace_state
set_option maxRecDepth 100000 in
set_option maxHeartbeats 4000000 in
theorem zja : Ctr Tryz.prog 20 [nilT] .nilS := by
  refine zax Tryz.func20 rfl Tryz.ntmps20 Tryz.results20 rfl rfl fun X hL hX => ?_
  repeat' (first |refine zqj zaZ rfl rfl rfl ?_|with_reducible (first |refine zah ?_|refine zaa ?_|refine zag ?_|refine zad ?_|refine zan ?_|refine zam ?_)|refine zab rfl rfl True.intro ?_|refine zau rfl ?_|refine zaq rfl ?_|fail)
  all_goals first
    | rfl
    | trace_state
theorem znW (rows : List (List Tx)) (j : JnR) (l : List AtR) : (attrsJ rows j l).1.length ≤ l.length + (namesR rows).length := by
  unfold attrsJ
  split
  · exact Nat.le_add_right ..
  · split
    · have := (zjM l (rowV rows j (keyV (l.getD (Csv.idxI j.attr (keysA l)).toNat ([], v03)).2).1).1).2
      have h2 := zhc rows j (keyV (l.getD (Csv.idxI j.attr (keysA l)).toNat ([], v03)).2).1
      dsimp only
      omega
    · exact Nat.le_add_right ..
theorem zfq {s : Tx} {j : JnR} {l : List AtR} (h : muchJ s j l = false) : s.length ≤ 600 ∧ j.only.length ≤ 20 ∧ j.notl.length ≤ 20 ∧ l.length ≤ 40 := by
  unfold muchJ at h
  rw [Bool.or_eq_false_iff] at h
  have := of_decide_eq_false h.1
  omega
set_option maxRecDepth 100000 in
set_option maxHeartbeats 16000000 in
theorem zkS (s : Tx) (j : JnR) (l : List AtR) (key : Tx) (hs : s.length ≤ 4194304) (h1 : j.only.length ≤ 4194304) (h2 : j.notl.length ≤ 4194304) (hl : l.length ≤ 1048576)
    (hb : ∀ i, (l.getD i ([], v03)).1.length ≤ 4194304 ∧ (l.getD i ([], v03)).2.2.1.length ≤ 4194304) (hv : okAtt l) (hk : key.length ≤ 4194304) :
    Ctr Tryz.prog 3 [.s s, .ag (jnP j), .sl 4 l.length (atrF l), .s key] (.b true) := by
  have cl := zfo
  have m1 := zdi s j l hs h1 h2 (by omega) hb
  refine zax Tryz.func3 rfl Tryz.ntmps3 Tryz.results3 rfl rfl fun X hL hX => ?_
  cases hm : muchJ s j l with
  | true =>
    rw [hm] at m1
    repeat' (first |refine zae (f := 7) rfl rfl Tryz.call7 rfl m1 ?_|refine zae (f := 8) rfl rfl Tryz.call8 rfl cl ?_|with_reducible (first |refine zah ?_|refine zaa ?_|refine zag ?_|refine zad ?_|refine zan ?_|refine zam ?_)|refine zab rfl rfl True.intro ?_|refine zap rfl rfl rfl ?_|refine zau rfl ?_|((first |refine zab rfl rfl ?_ ?_|refine zav rfl rfl ?_ ?_);focus (first |exact le_ rfl|((repeat' refine And.intro ?_ ?_)<;>omega)|((repeat' refine And.intro ?_ ?_)<;>first |rfl)))|refine zaq rfl ?_|fail)
    all_goals rfl
  | false =>
  rw [hm] at m1
  by_cases hkk : 100 < key.length
  · have hk' : (key.length : Int) > 100 := by omega
    repeat' (first |refine zae (f := 7) rfl rfl Tryz.call7 rfl m1 ?_|refine zae (f := 8) rfl rfl Tryz.call8 rfl cl ?_|with_reducible (first |refine zah ?_|refine zaa ?_|refine zag ?_|refine zad ?_|refine zan ?_|refine zam ?_)|refine zab rfl rfl True.intro ?_|refine zaj rfl rfl rfl rfl True.intro ?_|((first |refine zac rfl ?_ ?_)<;>intro<;>try (first |(exfalso;omega)))|((first |refine zab rfl rfl ?_ ?_|refine zav rfl rfl ?_ ?_);focus (first |exact le_ rfl|((repeat' refine And.intro ?_ ?_)<;>omega)|((repeat' refine And.intro ?_ ?_)<;>first |rfl)))|refine zaq rfl ?_|fail)
    all_goals rfl
  have hk' : ¬ (key.length : Int) > 100 := by omega
  obtain ⟨s1, s2, s3, s4⟩ := zfq hm
  have cD := zif s j (by omega) h1 h2
  by_cases ht : (tabJ s j).2 = 0
  rotate_left
  · have cN := zge s j (by omega) h1 h2 ht
    have cA := zlv l hl
    have cS := zdk l (by omega)
    generalize tabJ s j = tb at *
    obtain ⟨rows, e⟩ := tb
    dsimp only at cN cD ht
    repeat' (first |refine zae (f := 7) rfl rfl Tryz.call7 rfl m1 ?_|refine zae (f := 9) rfl rfl Tryz.call9 rfl cN ?_|refine zae (f := 10) rfl rfl Tryz.call10 rfl cD ?_|refine zae (f := 11) rfl rfl Tryz.call11 rfl cA ?_|refine zae (f := 12) rfl rfl Tryz.call12 rfl cS ?_|refine zaw (f := 8) rfl rfl rfl rfl Tryz.call8 rfl cl ?_|with_reducible (first |refine zah ?_|refine zaa ?_|refine zag ?_|refine zad ?_|refine zan ?_|refine zai ?_|refine zam ?_)|refine zab rfl rfl True.intro ?_|refine zaj rfl rfl rfl rfl True.intro ?_|((first |refine zac rfl ?_ ?_|refine zaR rfl ?_ ?_)<;>intro<;>try (first |(exfalso;omega)))|((first |refine zab rfl rfl ?_ ?_|refine zav rfl rfl ?_ ?_);focus (first |exact le_ rfl|((repeat' refine And.intro ?_ ?_)<;>omega)|((repeat' refine And.intro ?_ ?_)<;>first |rfl)))|refine zaq rfl ?_|fail)
    all_goals first
      | rfl
      | (exfalso; omega)
      | trace_state
  have cN := zeD s j (by omega) h1 h2 ht
  obtain ⟨hT, _⟩ := zdq ht
  generalize tabJ s j = tb at *
  obtain ⟨rows, e⟩ := tb
  dsimp only at cN cD ht hT
  subst ht
  have cR := zgL rows j key s.length hT (by omega)
  have cP := zjw rows j key s.length hT (by omega) h1 h2
  have cA := ziy rows j l s.length hT (by omega) hl hv
  have cB := zlk rows j l s.length hT (by omega) h1 h2 hl hv
  have f1 := zhc rows j key
  have f2 := znW rows j l
  have f3 := (zaI hT.good).1
  have hok := zem rows j
  generalize rowV rows j key = rv at *
  obtain ⟨ra, rb⟩ := rv
  generalize attrsJ rows j l = av at *
  obtain ⟨aa, ab⟩ := av
  dsimp only at cR cP cA cB f1 f2
  have cS1 := zdk ra (by omega)
  have cS2 := zdk aa (by omega)
  unfold tblO at cN cR cA hok
  clear hT hv hb
  cases rb <;> cases ab
  repeat' (first |refine zae (f := 7) rfl rfl Tryz.call7 rfl m1 ?_|refine ziT (f := 9) [] [(70, .var (tblP rows j (.gs 101 1 (colsR rows j).length (colF (colsR rows j))))), (68, .mp (firstE (keysR rows (colK rows j)) (rows.length - 1))), (101, .row 3 1 (colsR rows j).length)] [] [70, 68, 101] rfl rfl (by decide) (fun _ h => by cases h) (new3 rfl rfl rfl) rfl rfl Tryz.call9 trivial rfl rfl hok rfl cN ?_|refine zae (f := 10) rfl rfl Tryz.call10 rfl cD ?_|refine zbp (f := 13) [(70, .var (tblP rows j (.gs 101 1 (colsR rows j).length (colF (colsR rows j))))), (68, .mp (firstE (keysR rows (colK rows j)) (rows.length - 1))), (101, .row 3 1 (colsR rows j).length)] [70, 68, 101] rfl (by decide) rfl rfl Tryz.call13 ⟨rfl, rfl, rfl, trivial⟩ rfl hok rfl cR ?_|refine zae (f := 14) rfl rfl Tryz.call14 rfl cP ?_|refine zbp (f := 11) [(70, .var (tblP rows j (.gs 101 1 (colsR rows j).length (colF (colsR rows j))))), (68, .mp (firstE (keysR rows (colK rows j)) (rows.length - 1))), (101, .row 3 1 (colsR rows j).length)] [70, 68, 101] rfl (by decide) rfl rfl Tryz.call11 ⟨rfl, rfl, rfl, trivial⟩ rfl hok rfl cA ?_|refine zae (f := 15) rfl rfl Tryz.call15 rfl cB ?_|refine zae (f := 12) rfl rfl Tryz.call12 rfl cS1 ?_|refine zaw (f := 12) rfl rfl rfl rfl Tryz.call12 rfl cS2 ?_|refine zaw (f := 8) rfl rfl rfl rfl Tryz.call8 rfl cl ?_|with_reducible (first |refine zah ?_|refine zaa ?_|refine zag ?_|refine zad ?_|refine zan ?_|refine zai ?_)|refine zab rfl rfl True.intro ?_|refine zaj rfl rfl rfl rfl True.intro ?_|refine zal rfl ?_|((first |refine zac rfl ?_ ?_)<;>intro<;>try (first |(exfalso;omega)))|((first |refine zab rfl rfl ?_ ?_|refine zav rfl rfl ?_ ?_);focus (first |exact le_ rfl|((repeat' refine And.intro ?_ ?_)<;>omega)|((repeat' refine And.intro ?_ ?_)<;>first |rfl)))|refine zaq rfl ?_|fail)
  all_goals first
    | rfl
    | (exfalso; omega)
    | (exfalso; rename_i q; exact q rfl)
    | trace_state

section
variable {H : Type}
theorem zos (l : List (DataW H)) (n i : Nat) : (l.drop n).getD i .nil = l.getD (n + i) .nil := by
  simp [List.getD_eq_getElem?_getD]
def kid (d : DataW H) (i : Nat) : DataW H := (kids d).getD i .nil
theorem bk (d : DataW H) (i : Nat) : Rows.uptoBulk (kid d i) ≤ Rows.uptoBulk d := by
  unfold kid
  by_cases h : i < (kids d).length
  · rw [List.getD_eq_getElem?_getD, List.getElem?_eq_getElem h, Option.getD_some]
    have := zgy (List.getElem_mem h)
    have := zdC d
    omega
  · rw [List.getD_eq_getElem?_getD, List.getElem?_eq_none (by omega), Option.getD_none]
    exact zgJ d
theorem bkl (d : DataW H) : (kids d).length ≤ Rows.uptoBulk d := by
  have := zgZ (kids d)
  have := zdC d
  omega
def txsOf (d : DataW H) : List Tx := (kids d).map strOf
theorem zor (d : DataW H) (i : Nat) : (txsOf d).getD i [] = strOf (kid d i) := zdn strOf (kids d) .nil i
theorem zhL {d : DataW H} (h : Rows.uptoBulk d ≤ 1048576) : (txsOf d).length ≤ 4194304 := by
  have := bkl d
  unfold txsOf
  rw [List.length_map]
  omega
def jnOf (d : DataW H) : JnR := ⟨strOf (kid d 0), strOf (kid d 1), txsOf (kid d 2), txsOf (kid d 3), boolOf (kid d 4), boolOf (kid d 5)⟩
def gS (d : DataW H) : List D := [.s (strOf d)]
def gBk (d : DataW H) : List D := [.b (boolOf d)]
def gSl (z : Nat) (G : DataW H → List D) (d : DataW H) : List D := [.sl z (kids d).length (fun i => G ((kids d).getD i .nil))]
def gJoin (d : DataW H) : List D := catG [gS, gS, gSl 1 gS, gSl 1 gS, gBk, gBk] (kids d)
theorem zqp (d : DataW H) : gSl 1 gS d = [.sl 1 (txsOf d).length (Csv.rowF (txsOf d))] := by
  have h1 : (txsOf d).length = (kids d).length := by simp [txsOf]
  have h2 : (fun i => gS ((kids d).getD i .nil)) = Csv.rowF (txsOf d) := by
    funext i
    unfold Csv.rowF
    rw [zor]
    rfl
  show [D.sl 1 (kids d).length (fun i => gS ((kids d).getD i .nil))] = _
  rw [h1, h2]
theorem zoE (d : DataW H) : gJoin d = jnP (jnOf d) := by
  show gS ((kids d).getD 0 .nil) ++ (gS (((kids d).drop 1).getD 0 .nil) ++ (gSl 1 gS ((((kids d).drop 1).drop 1).getD 0 .nil) ++ (gSl 1 gS (((((kids d).drop 1).drop 1).drop 1).getD 0 .nil) ++ (gBk ((((((kids d).drop 1).drop 1).drop 1).drop 1).getD 0 .nil) ++ (gBk (((((((kids d).drop 1).drop 1).drop 1).drop 1).drop 1).getD 0 .nil) ++ []))))) = _
  simp only [List.drop_drop, zos, zqp]
  rfl
theorem zjG {d : DataW H} (h : Rows.uptoBulk d ≤ 1048576) : (jnOf d).only.length ≤ 4194304 ∧ (jnOf d).notl.length ≤ 4194304 := by
  have h2 := bk d 2
  have h3 := bk d 3
  exact ⟨zhL (by omega), zhL (by omega)⟩
theorem zqS {d : DataW H} (h : Rows.uptoBulk d ≤ 1048576) : okAtt (attsD d) := fun i => by
  have e : (attsD d).getD i ([], v03) = attJ ((kids d).getD i .nil) := by
    rw [← zgq (H := H)]
    exact zdn attJ (kids d) .nil i
  have b0 := zck d (kids d) (fun _ h => h) i
  have b1 := zck ((kids d).getD i .nil) ((kids ((kids d).getD i .nil)).drop 1) (fun _ h => List.mem_of_mem_drop h) 0
  have b3 := zck (kj1 ((kids d).getD i .nil)) ((kids (kj1 ((kids d).getD i .nil))).drop 1) (fun _ h => List.mem_of_mem_drop h) 0
  have s2 := zcM (kj1 (kj1 ((kids d).getD i .nil)))
  have hw := zmz (kj2 (kj1 ((kids d).getD i .nil)))
  rw [e]
  show 0 ≤ ((wordOf (kj2 (kj1 ((kids d).getD i .nil))) : Nat) : Int) ∧ ((wordOf (kj2 (kj1 ((kids d).getD i .nil))) : Nat) : Int) < 18446744073709551616 ∧ (strOf (kj1 (kj1 ((kids d).getD i .nil)))).length ≤ _
  refine ⟨by omega, by omega, Nat.le_trans s2 (Nat.le_trans b3 (Nat.le_trans b1 (Nat.le_trans b0 h)))⟩
variable {enc : TypeId × Value → H} {W : World}
theorem zhX : Tells enc W 22 1 (gSl 1 (gS (H := H))) := zeQ Tryz.underlying22 (by kernel_rfl) (by omega) (zce Tryz.underlying9)
theorem zla : Tells enc W 24 6 (gJoin (H := H)) :=
  zcs Tryz.underlying24 rfl (by kernel_rfl) (.cons _ _ 0 1 6 _ _ rfl (by kernel_rfl) (zce Tryz.underlying9) (.cons _ _ 1 1 6 _ _ rfl (by kernel_rfl) (zce Tryz.underlying9) (.cons _ _ 2 1 6 _ _ rfl (by kernel_rfl) zhX (.cons _ _ 3 1 6 _ _ rfl (by kernel_rfl) zhX
    (.cons _ _ 4 1 6 _ _ rfl (by kernel_rfl) (zfX Tryz.underlying4) (.cons _ _ 5 1 6 _ _ rfl (by kernel_rfl) (zfX Tryz.underlying4) (.nil 6)))))))
set_option maxRecDepth 100000 in
theorem zjo {base : Nat} {v : Value} {d : DataW H} {ps : List MemPlace} (hv : Value.okWide Tryz.prog W .any base 24 v) (h : DataW.Trod enc Tryz.prog W 0 (fun _ => true) true 24 v d ps) :
    Rel (allOf W) W noRho (.ag (jnP (jnOf d))) v := by
  have k := zlc (enc := enc) Tryz.underlying24 zla hv h
  rwa [zoE] at k
end

def valAt (rows : List (List Tx)) (j : JnR) (i r : Nat) : Option Vl3 := if (typedF (cellR rows (r + 1) i) j.texts).2 = true then some (typedF (cellR rows (r + 1) i) j.texts).1 else none
def valsTo (rows : List (List Tx)) (j : JnR) (i m : Nat) : List Vl3 := (List.range m).filterMap (valAt rows j i)
theorem zfB (rows : List (List Tx)) (j : JnR) (i m : Nat) : valsTo rows j i (m + 1) = valsTo rows j i m ++ (valAt rows j i m).toList := by
  unfold valsTo
  rw [List.range_succ, List.filterMap_append]
  rfl
theorem zmK {β : Type} (rows : List (List Tx)) (f : List Tx → β) : (rows.drop 1).map f = (List.range (rows.length - 1)).map fun r => f (rows.getD (r + 1) []) := by
  refine List.ext_getElem (by simp) fun i h1 h2 => ?_
  have h3 : i + 1 < rows.length := by
    rw [List.length_map, List.length_drop] at h1
    omega
  simp only [List.getElem_map, List.getElem_drop, List.getElem_range, List.getD_eq_getElem?_getD]
  rw [List.getElem?_eq_getElem h3]
  congr 2
  omega
theorem zfY (rows : List (List Tx)) (j : JnR) (i : Nat) : colVals rows j i = valsTo rows j i (rows.length - 1) := by
  unfold colVals valsTo
  rw [zmK, List.filterMap_map]
  rfl
def numK (l : List Vl3) : Nat := (l.filter isNumK).length
theorem znO (l : List Vl3) (v : Vl3) : numK (l ++ [v]) = numK l + if isNumK v = true then 1 else 0 := by
  unfold numK
  rw [List.filter_append, List.length_append]
  congr 1
  by_cases h : isNumK v = true
  · rw [if_pos h, List.filter_cons_of_pos h]
    rfl
  · rw [if_neg h, List.filter_cons_of_neg h]
    rfl
theorem zjD (l : List Vl3) : l.all isNumK = true ↔ numK l = l.length := by
  unfold numK
  rw [List.all_eq_true, List.length_filter_eq_length_iff]
theorem zph (rows : List (List Tx)) (j : JnR) (i : Nat) : kindJ rows j i = if 0 < (valsTo rows j i (rows.length - 1)).length ∧ numK (valsTo rows j i (rows.length - 1)) = (valsTo rows j i (rows.length - 1)).length then numberT else stringT := by
  unfold kindJ
  rw [zfY]
  by_cases h : 0 < (valsTo rows j i (rows.length - 1)).length ∧ numK (valsTo rows j i (rows.length - 1)) = (valsTo rows j i (rows.length - 1)).length
  · rw [if_pos h, if_pos ⟨h.1, (zjD _).2 h.2⟩]
  · rw [if_neg h, if_neg fun q => h ⟨q.1, (zjD _).1 q.2⟩]
theorem zhu (v : Vl3) : (kindV v == numberT) = isNumK v := by
  unfold kindV isNumK
  by_cases h1 : v.1 = 1
  · rw [if_pos h1, decide_eq_false (by simp [h1])]
    rfl
  · rw [if_neg h1]
    by_cases h7 : v.1 = 7
    · rw [if_pos h7, decide_eq_false (by simp [h7])]
      rfl
    · rw [if_neg h7, decide_eq_true ⟨h1, h7⟩]
      rfl
def prF (l : List (Tx × Tx)) : Nat → List D := fun i => [.s (l.getD i ([], [])).1, .s (l.getD i ([], [])).2]
theorem zdd (k : Nat) (l : List (Tx × Tx)) (p : Tx × Tx) (g : Nat → List D) (hg : g 0 = [.s p.1, .s p.2]) : D.gs k 2 (l.length + 1) (catF l.length (prF l) 1 g) = D.gs k 2 (l ++ [p]).length (prF (l ++ [p])) := by
  have e : catF l.length (prF l) 1 g = prF (l ++ [p]) := by
    funext j
    unfold catF prF
    by_cases h : j < l.length
    · rw [if_pos h]
      simp [List.getD_eq_getElem?_getD, List.getElem?_append_left h]
    · rw [if_neg h]
      by_cases h2 : j < l.length + 1
      · have : j = l.length := by omega
        subst this
        rw [if_pos (by omega), Nat.sub_self, hg]
        simp [List.getD_eq_getElem?_getD]
      · rw [if_neg (by omega)]
        simp [List.getD_eq_getElem?_getD, show l.length ≤ j by omega]
        rw [List.getElem?_eq_none (by simp; omega)]
        exact ⟨rfl, rfl⟩
  rw [e, List.length_append]
  rfl

theorem zlY {β : Type} {f : Nat → β} {l : List Nat} {i : Nat} (h : i < l.length) : (l.take (i + 1)).map f = (l.take i).map f ++ [f (l.getD i 0)] := by
  rw [List.take_add_one, List.map_append, List.getElem?_eq_getElem h]
  congr 1
  simp [List.getD_eq_getElem?_getD, h]
theorem zgf {rows : List (List Tx)} {j : JnR} {i r : Nat} (h : (typedF (cellR rows (r + 1) i) j.texts).2 = false) : valsTo rows j i (r + 1) = valsTo rows j i r := by
  rw [zfB, show valAt rows j i r = none from if_neg (by rw [h]; exact Bool.false_ne_true)]
  exact List.append_nil _
theorem zgi {rows : List (List Tx)} {j : JnR} {i r : Nat} {v : Vl3} (h : typedF (cellR rows (r + 1) i) j.texts = (v, true)) : valsTo rows j i (r + 1) = valsTo rows j i r ++ [v] := by
  rw [zfB, show valAt rows j i r = some v from (if_pos (by rw [h])).trans (by rw [h])]
  rfl
set_option maxRecDepth 100000 in
set_option maxHeartbeats 16000000 in
theorem zjf (rows : List (List Tx)) (j : JnR) (n : Nat) (hT : RightT n rows j) (hn : n ≤ 1000000) : CtrO Tryz.prog 20 [.pv 70 0] (tblO rows j) (.sl 2 (fieldsJ rows j).length (prF (fieldsJ rows j))) (tblO rows j) := by
  have hcl := fun k hk => ziM (rows := rows) (j := j) (k := k) hk
  have hnl : (namesR rows).length ≤ n + 1 := (zaI hT.good).1
  have hcn : (colsR rows j).length ≤ (namesR rows).length := by
    unfold colsR
    exact Nat.le_trans (List.length_filter_le ..) (by rw [List.length_range]; exact Nat.le_refl _)
  have good := hT.good
  have few := hT.few
  have some1 := hT.some1
  unfold fieldsJ
  refine zdb (ids := [70, 68, 101]) (ids2 := [70, 68, 101]) Tryz.func20 rfl Tryz.ntmps20 Tryz.results20 rfl rfl rfl (fun _ h => h) rfl (zem rows j) fun X hL hX => ?_
  unfold tblO
  generalize hcs : colsR rows j = cs at *
  clear hT
  repeat' (first |refine zen zaZ rfl rfl rfl ?_|refine T.adopt 3 3 54 2 (prF []) rfl rfl ?_|with_reducible (first |refine zah ?_|refine zaa ?_|refine zag ?_|refine zad ?_|refine zai ?_|refine zaf ?_)|refine zab rfl rfl True.intro ?_|refine zal rfl ?_|((first |refine zab rfl rfl ?_ ?_);focus (first |exact le_ rfl|((repeat' refine And.intro ?_ ?_)<;>omega)))|fail)
  refine T.loop hL (fun x : Nat × List (Tx × Tx) => [(0, .pv 70 0), (3, .gs 3 2 x.2.length (prF x.2)), (18, .gs 101 1 cs.length (colF cs)), (19, .i .i64 cs.length), (20, .i .i64 x.1)]) (fun x => [(70, .var (tblP rows j (.gs 101 1 cs.length (colF cs)))), (68, .mp (firstE (keysR rows (colK rows j)) (rows.length - 1))), (101, .row 3 1 cs.length), (3, .row 54 2 x.2.length)])
    (fun x => x.1 ≤ cs.length ∧ x.2.length = x.1 ∧ x.2 = (cs.take x.1).map (fun i => ((namesR rows).getD i [], kindJ rows j i))) (fun x => cs.length - x.1) (0, []) ⟨Nat.zero_le _, rfl, by rw [List.take_zero]; rfl⟩
    ⟨⟨rfl, rfl, rfl, rfl, rfl, trivial⟩, ⟨rfl, rfl, rfl, rfl, trivial⟩, okT3 rfl, by rw [hX]; simp⟩ ?_
  rintro ⟨i, out⟩ ⟨g1, g2, g3⟩
  try dsimp only at g1 g2 g3 ⊢
  have hnat : (i : Int).toNat = i := Int.toNat_natCast i
  by_cases hi : i < cs.length
  rotate_left
  · have hi' : ¬ (i : Int) < (cs.length : Int) := by omega
    rw [List.take_of_length_le (by omega)] at g3
    rw [← g3]
    refine T.shutJ 3 _ (.sl 2 out.length (prF out)) rfl (.refl _) ?_
    repeat' (first |with_reducible (first |refine zah ?_|refine zaa ?_|refine zag ?_|refine zad ?_|refine zan ?_|refine zat ?_|refine zas ?_)|refine zab rfl rfl True.intro ?_|((first |refine zac rfl ?_ ?_)<;>intro<;>try (first |(exfalso;omega)))|refine zaB rfl ?_|refine zcm rfl (.refl _) ⟨⟨rfl, rfl, rfl, trivial⟩⟩|fail)
    all_goals first
      | rfl
      | trace_state
  have hi' : (i : Int) < (cs.length : Int) := by omega
  have hnx := zlY (f := fun i => ((namesR rows).getD i ([] : Tx), kindJ rows j i)) hi
  rw [← g3] at hnx
  have hlt := hcl i hi
  have hnm : (namesR rows).length = (rows.getD 0 []).length := rfl
  have b2 : ((cs.getD (i : Int).toNat 0 : Nat) : Int) < ((rows.getD 0 []).length : Int) := by rw [hnat]; omega
  rw [zph] at hnx
  have hrl : ((rows.length - 1 : Nat) : Int) ≤ 1000000 := by omega
  repeat' (first |with_reducible (first |refine zah ?_|refine zaa ?_|refine zag ?_|refine zad ?_|refine zai ?_|refine zaf ?_)|refine zab rfl rfl True.intro ?_|((first |refine zac rfl ?_ ?_)<;>intro<;>try (first |(exfalso;omega)))|((first |refine zab rfl rfl ?_ ?_);focus (first |omega|exact le_ rfl|((repeat' refine And.intro ?_ ?_)<;>omega)))|fail)
  refine T.loop hL (fun x : Nat × Nat × Nat => [(0, .pv 70 0), (3, .gs 3 2 out.length (prF out)), (5, .i .i64 ((cs.getD (i : Int).toNat 0 : Nat) : Int)), (6, .i .i64 x.2.1), (7, .i .i64 x.2.2), (18, .gs 101 1 cs.length (colF cs)), (19, .i .i64 cs.length), (20, .i .i64 i), (27, .sl 1 (rows.length - 1) (fun i => Csv.tabF rows (1 + i))), (28, .i .i64 ((rows.length - 1 : Nat) : Int)), (29, .i .i64 x.1)]) (fun _ => [(70, .var (tblP rows j (.gs 101 1 cs.length (colF cs)))), (68, .mp (firstE (keysR rows (colK rows j)) (rows.length - 1))), (101, .row 3 1 cs.length), (3, .row 54 2 out.length)])
    (fun x => x.1 ≤ rows.length - 1 ∧ x.2.1 ≤ x.1 ∧ x.2.2 ≤ x.2.1 ∧ x.2.1 = (valsTo rows j (cs.getD i 0) x.1).length ∧ x.2.2 = numK (valsTo rows j (cs.getD i 0) x.1)) (fun x => rows.length - 1 - x.1) (0, 0, 0) ⟨Nat.zero_le _, Nat.le_refl _, Nat.le_refl _, rfl, rfl⟩
    ⟨⟨rfl, rfl, rfl, rfl, rfl, rfl, rfl, rfl, rfl, rfl, rfl, trivial⟩, ⟨rfl, rfl, rfl, rfl, trivial⟩, okT3 rfl, by rw [hX]; simp⟩ ?_
  rintro ⟨m, many, nums⟩ ⟨f1, f2, f3, f4, f5⟩
  try dsimp only at f1 f2 f3 f4 f5 ⊢
  have mnat : (m : Int).toNat = m := Int.toNat_natCast m
  by_cases hm : m < rows.length - 1
  rotate_left
  · have hm' : ¬ (m : Int) < ((rows.length - 1 : Nat) : Int) := by omega
    rw [show m = rows.length - 1 by omega] at f4 f5
    rw [← f4, ← f5] at hnx
    have hnm0 : (namesR rows).getD (cs.getD i 0) [] = (rows.getD 0 []).getD ((cs.getD (i : Int).toNat 0 : Nat) : Int).toNat [] := by rw [hnat, Int.toNat_natCast]; rfl
    rw [hnm0] at hnx
    clear f4 f5
    by_cases hk : 0 < many ∧ nums = many
    · rw [if_pos hk] at hnx
      have hk1 : (many : Int) > 0 := by omega
      have hk2 : (many : Int) = (nums : Int) := by omega
      repeat' (first |with_reducible (first |refine zah ?_|refine zaa ?_|refine zag ?_|refine zad ?_|refine zat ?_|refine zao ?_|refine zas ?_)|refine zab rfl rfl True.intro ?_|refine zaj rfl rfl rfl rfl True.intro ?_|((first |refine zac rfl ?_ ?_|refine zak rfl rfl ?_ ?_)<;>intro<;>try (first |(exfalso;omega)))|((first |refine zab rfl rfl ?_ ?_|refine zav rfl rfl ?_ ?_);focus (first |omega|exact le_ rfl|((repeat' refine And.intro ?_ ?_)<;>omega)|((repeat' refine And.intro ?_ ?_)<;>first |omega|rfl)))|refine zaB rfl ?_|fail)
      all_goals first
        | exact ⟨(i + 1, out ++ [((rows.getD 0 []).getD ((cs.getD (i : Int).toNat 0 : Nat) : Int).toNat [], numberT)]), ⟨by dsimp only; omega, by dsimp only; rw [List.length_append]; simp; omega, by dsimp only; exact hnx.symm⟩, by dsimp only; omega, ⟨rfl, zdd 3 out _ _ rfl, rfl, rfl, rfl, trivial⟩, ⟨rfl, rfl, rfl, by rw [List.length_append]; rfl, trivial⟩, okT3 rfl, by rw [hX]; simp⟩
        | (exfalso; omega)
        | trace_state
    · rw [if_neg hk] at hnx
      by_cases hk0 : 0 < many
      · have hk1 : (many : Int) > 0 := by omega
        have hk2 : ¬ (many : Int) = (nums : Int) := by omega
        repeat' (first |with_reducible (first |refine zah ?_|refine zaa ?_|refine zag ?_|refine zad ?_|refine zai ?_|refine zat ?_|refine zao ?_|refine zas ?_)|refine zab rfl rfl True.intro ?_|refine zaj rfl rfl rfl rfl True.intro ?_|((first |refine zac rfl ?_ ?_|refine zak rfl rfl ?_ ?_)<;>intro<;>try (first |(exfalso;omega)))|((first |refine zab rfl rfl ?_ ?_|refine zav rfl rfl ?_ ?_);focus (first |omega|exact le_ rfl|((repeat' refine And.intro ?_ ?_)<;>omega)|((repeat' refine And.intro ?_ ?_)<;>first |omega|rfl)))|refine zaB rfl ?_|fail)
        all_goals first
          | exact ⟨(i + 1, out ++ [((rows.getD 0 []).getD ((cs.getD (i : Int).toNat 0 : Nat) : Int).toNat [], stringT)]), ⟨by dsimp only; omega, by dsimp only; rw [List.length_append]; simp; omega, by dsimp only; exact hnx.symm⟩, by dsimp only; omega, ⟨rfl, zdd 3 out _ _ rfl, rfl, rfl, rfl, trivial⟩, ⟨rfl, rfl, rfl, by rw [List.length_append]; rfl, trivial⟩, okT3 rfl, by rw [hX]; simp⟩
          | (exfalso; omega)
          | trace_state
      · have hk1 : ¬ (many : Int) > 0 := by omega
        repeat' (first |with_reducible (first |refine zah ?_|refine zaa ?_|refine zag ?_|refine zad ?_|refine zai ?_|refine zat ?_|refine zao ?_|refine zas ?_)|refine zab rfl rfl True.intro ?_|refine zap rfl rfl rfl ?_|refine zal rfl ?_|((first |refine zac rfl ?_ ?_|refine zak rfl rfl ?_ ?_)<;>intro<;>try (first |(exfalso;omega)))|((first |refine zab rfl rfl ?_ ?_|refine zav rfl rfl ?_ ?_);focus (first |omega|exact le_ rfl|((repeat' refine And.intro ?_ ?_)<;>omega)|((repeat' refine And.intro ?_ ?_)<;>first |omega|rfl)))|refine zaB rfl ?_|fail)
        all_goals first
          | exact ⟨(i + 1, out ++ [((rows.getD 0 []).getD ((cs.getD (i : Int).toNat 0 : Nat) : Int).toNat [], stringT)]), ⟨by dsimp only; omega, by dsimp only; rw [List.length_append]; simp; omega, by dsimp only; exact hnx.symm⟩, by dsimp only; omega, ⟨rfl, zdd 3 out _ _ rfl, rfl, rfl, rfl, trivial⟩, ⟨rfl, rfl, rfl, by rw [List.length_append]; rfl, trivial⟩, okT3 rfl, by rw [hX]; simp⟩
          | (exfalso; omega)
          | trace_state
  have hm' : (m : Int) < ((rows.length - 1 : Nat) : Int) := by omega
  have hrow := (good (1 + m) (by omega)).1
  have b1 : ((cs.getD (i : Int).toNat 0 : Nat) : Int) < ((rows.getD (1 + (m : Int).toNat) []).length : Int) := by rw [hnat, mnat]; omega
  have hcell : ((rows.getD (1 + (m : Int).toNat) []).getD ((cs.getD (i : Int).toNat 0 : Nat) : Int).toNat []).length ≤ n := by
    rw [mnat]
    exact zev good (by omega)
  have c := zhO ((rows.getD (1 + (m : Int).toNat) []).getD ((cs.getD (i : Int).toNat 0 : Nat) : Int).toNat []) (by omega) j.texts
  have hce : cellR rows (m + 1) (cs.getD i 0) = (rows.getD (1 + (m : Int).toNat) []).getD ((cs.getD (i : Int).toNat 0 : Nat) : Int).toNat [] := by
    rw [hnat, mnat, Int.toNat_natCast, Nat.add_comm 1]
    rfl
  have vN := zgf (rows := rows) (j := j) (i := cs.getD i 0) (r := m)
  have vS := fun v => zgi (rows := rows) (j := j) (i := cs.getD i 0) (r := m) (v := v)
  rw [hce] at vN vS
  clear hce hcell hnx
  generalize typedF ((rows.getD (1 + (m : Int).toNat) []).getD ((cs.getD (i : Int).toNat 0 : Nat) : Int).toNat []) j.texts = tv at c vN vS
  obtain ⟨v, b⟩ := tv
  cases b with
  | false =>
    have vN := vN rfl
    rw [← vN] at f4 f5
    clear vN vS
    repeat' (first |refine zae (f := 42) rfl rfl Tryz.call42 rfl c ?_|with_reducible (first |refine zah ?_|refine zaa ?_|refine zag ?_|refine zad ?_|refine zai ?_|refine zat ?_|refine zaf ?_|refine zas ?_|refine zaC ?_)|refine zab rfl rfl True.intro ?_|refine zau rfl ?_|((first |refine zac rfl ?_ ?_)<;>intro<;>try (first |(exfalso;omega)))|((first |refine zab rfl rfl ?_ ?_|refine zav rfl rfl ?_ ?_|refine zaH rfl ?_ ?_);focus (first |omega|exact le_ rfl|((repeat' refine And.intro ?_ ?_)<;>omega)|((repeat' refine And.intro ?_ ?_)<;>first |rfl|exact Nat.le_refl _)))|refine zaB rfl ?_|with_reducible refine ⟨by kernel_rfl, ?_⟩|fail)
    all_goals first
      | exact ⟨(m + 1, many, nums), ⟨by dsimp only; omega, by dsimp only; omega, f3, f4, f5⟩, by dsimp only; omega, ⟨rfl, rfl, rfl, rfl, rfl, rfl, rfl, rfl, rfl, rfl, rfl, trivial⟩, ⟨rfl, rfl, rfl, rfl, trivial⟩, okT3 rfl, by rw [hX]; simp⟩
      | (exfalso; omega)
      | trace_state
  | true =>
    have vS := vS v rfl
    have f4 : many + 1 = (valsTo rows j (cs.getD i 0) (m + 1)).length := by rw [vS, List.length_append, ← f4]; rfl
    have f5' : nums + (if isNumK v = true then 1 else 0) = numK (valsTo rows j (cs.getD i 0) (m + 1)) := by rw [vS, znO, ← f5]
    have cK := znA v
    have hkb := zhu v
    clear vN vS f5
    cases hq : isNumK v with
    | true =>
      rw [hq] at hkb f5'
      rw [if_pos rfl] at f5'
      repeat' (first |refine zae (f := 42) rfl rfl Tryz.call42 rfl c ?_|refine zae (f := 48) rfl rfl Tryz.call48 rfl cK ?_|with_reducible (first |refine zah ?_|refine zaa ?_|refine zag ?_|refine zad ?_|refine zai ?_|refine zaf ?_|refine zao ?_|refine zaC ?_)|refine zab rfl rfl True.intro ?_|refine zal rfl ?_|((first |refine zac rfl ?_ ?_|refine zaQ rfl ?_ ?_)<;>intro<;>try (first |(exfalso;omega)))|((first |refine zab rfl rfl ?_ ?_|refine zav rfl rfl ?_ ?_|refine zaH rfl ?_ ?_);focus (first |omega|exact le_ rfl|((repeat' refine And.intro ?_ ?_)<;>omega)|((repeat' refine And.intro ?_ ?_)<;>first |rfl|exact Nat.le_refl _)))|with_reducible refine ⟨by kernel_rfl, ?_⟩|fail)
      all_goals first
        | exact ⟨(m + 1, many + 1, nums + 1), ⟨by dsimp only; omega, by dsimp only; omega, by dsimp only; omega, f4, f5'⟩, by dsimp only; omega, ⟨rfl, rfl, rfl, rfl, rfl, rfl, rfl, rfl, rfl, rfl, rfl, trivial⟩, ⟨rfl, rfl, rfl, rfl, trivial⟩, okT3 rfl, by rw [hX]; simp⟩
        | (exfalso; omega)
        | (exfalso; rename_i q; exact q (eq_of_beq hkb))
        | trace_state
    | false =>
      rw [hq] at hkb f5'
      rw [if_neg Bool.false_ne_true] at f5'
      repeat' (first |refine zae (f := 42) rfl rfl Tryz.call42 rfl c ?_|refine zae (f := 48) rfl rfl Tryz.call48 rfl cK ?_|with_reducible (first |refine zah ?_|refine zaa ?_|refine zag ?_|refine zad ?_|refine zai ?_|refine zaf ?_|refine zao ?_|refine zaC ?_)|refine zab rfl rfl True.intro ?_|refine zal rfl ?_|((first |refine zac rfl ?_ ?_|refine zaQ rfl ?_ ?_)<;>intro<;>try (first |(exfalso;omega)))|((first |refine zab rfl rfl ?_ ?_|refine zav rfl rfl ?_ ?_|refine zaH rfl ?_ ?_);focus (first |omega|exact le_ rfl|((repeat' refine And.intro ?_ ?_)<;>omega)|((repeat' refine And.intro ?_ ?_)<;>first |rfl|exact Nat.le_refl _)))|with_reducible refine ⟨by kernel_rfl, ?_⟩|fail)
      all_goals first
        | exact ⟨(m + 1, many + 1, nums), ⟨by dsimp only; omega, by dsimp only; omega, by dsimp only; omega, f4, f5'⟩, by dsimp only; omega, ⟨rfl, rfl, rfl, rfl, rfl, rfl, rfl, rfl, rfl, rfl, rfl, trivial⟩, ⟨rfl, rfl, rfl, rfl, trivial⟩, okT3 rfl, by rw [hX]; simp⟩
        | (exfalso; omega)
        | (exfalso; rename_i q; exact beq_eq_false_iff_ne.1 hkb q)
        | trace_state

theorem zit (rows : List (List Tx)) (j : JnR) (i : Nat) : ((List.range (i + 1)).filter (fun x => joinedP j ((namesR rows).getD x []))).map (fun i => ((namesR rows).getD i [], kindJ rows j i)) = ((List.range i).filter (fun x => joinedP j ((namesR rows).getD x []))).map (fun i => ((namesR rows).getD i [], kindJ rows j i)) ++ (if joinedP j ((namesR rows).getD i []) = true then [((namesR rows).getD i [], kindJ rows j i)] else []) := by
  rw [List.range_succ, List.filter_append, List.map_append]
  congr 1
  by_cases h : joinedP j ((namesR rows).getD i []) = true
  · rw [if_pos h, List.filter_cons_of_pos (p := fun x => joinedP j ((namesR rows).getD x [])) h]
    rfl
  · rw [if_neg h, List.filter_cons_of_neg (p := fun x => joinedP j ((namesR rows).getD x [])) h]
    rfl
theorem znG (rows : List (List Tx)) (j : JnR) (i : Nat) : kindJ rows j i = if decide (0 < (valsTo rows j i (rows.length - 1)).length) = true ∧ (valsTo rows j i (rows.length - 1)).all isNumK = true then numberT else stringT := by
  unfold kindJ
  rw [zfY]
  by_cases h : 0 < (valsTo rows j i (rows.length - 1)).length
  · rw [decide_eq_true h]
    by_cases h2 : (valsTo rows j i (rows.length - 1)).all isNumK = true
    · rw [if_pos ⟨h, h2⟩, if_pos ⟨rfl, h2⟩]
    · rw [if_neg (fun q => h2 q.2), if_neg (fun q => h2 q.2)]
  · rw [decide_eq_false h, if_neg (fun q => h q.1), if_neg (fun q => Bool.false_ne_true q.1)]
set_option maxRecDepth 100000 in
set_option maxHeartbeats 16000000 in
theorem zio (rows : List (List Tx)) (j : JnR) (n : Nat) (hT : RightT n rows j) (hn : n ≤ 700) (h1 : j.only.length ≤ 4194304) (h2 : j.notl.length ≤ 4194304) : Ctr Tryz.prog 22 [.sl 1 rows.length (Csv.tabF rows), .ag (jnP j)] (.sl 2 (fieldsJ rows j).length (prF (fieldsJ rows j))) := by
  have hnl : (namesR rows).length ≤ n + 1 := (zaI hT.good).1
  have hnm : (namesR rows).length = (rows.getD 0 []).length := rfl
  have some1 : (0 : Int) < (rows.length : Int) := by have := hT.some1; omega
  have few := hT.few
  have good := hT.good
  unfold fieldsJ colsR
  rw [hnm]
  refine zax Tryz.func22 rfl Tryz.ntmps22 Tryz.results22 rfl rfl fun X hL hX => ?_
  clear hT
  repeat' (first |refine T.adopt 5 5 54 2 (prF []) rfl rfl ?_|with_reducible (first |refine zah ?_|refine zaa ?_|refine zag ?_|refine zad ?_|refine zaf ?_)|refine zab rfl rfl True.intro ?_|((first |refine zav rfl rfl ?_ ?_);focus (first |((repeat' refine And.intro ?_ ?_)<;>omega)|((repeat' refine And.intro ?_ ?_)<;>first |rfl)))|fail)
  refine T.loop hL (fun x : Nat × List (Tx × Tx) => [(0, .sl 1 rows.length (Csv.tabF rows)), (3, .pv 3 0), (5, .gs 5 2 x.2.length (prF x.2)), (6, .i .i64 x.1)]) (fun x => [(3, .var (jnP j)), (5, .row 54 2 x.2.length)])
    (fun x => x.1 ≤ (rows.getD 0 []).length ∧ x.2.length ≤ x.1 ∧ x.2 = ((List.range x.1).filter (fun i => joinedP j ((namesR rows).getD i []))).map (fun i => ((namesR rows).getD i [], kindJ rows j i))) (fun x => (rows.getD 0 []).length - x.1) (0, []) ⟨Nat.zero_le _, Nat.le_refl _, rfl⟩
    ⟨⟨rfl, rfl, rfl, rfl, trivial⟩, ⟨rfl, rfl, trivial⟩, rfl, by rw [hX]; simp⟩ ?_
  rintro ⟨i, out⟩ ⟨g1, g2, g3⟩
  try dsimp only at g1 g2 g3 ⊢
  have hnat : (i : Int).toNat = i := Int.toNat_natCast i
  by_cases hi : i < (rows.getD 0 []).length
  rotate_left
  · have hi' : ¬ (i : Int) < ((rows.getD (Int.toNat 0) []).length : Int) := by
      show ¬ (i : Int) < ((rows.getD 0 []).length : Int)
      omega
    rw [show i = (rows.getD 0 []).length by omega] at g3
    rw [← g3]
    repeat' (first |with_reducible (first |refine zah ?_|refine zaa ?_|refine zag ?_|refine zad ?_|refine zan ?_|refine zat ?_|refine zas ?_)|refine zab rfl rfl True.intro ?_|((first |refine zac rfl ?_ ?_)<;>intro<;>try (first |(exfalso;omega)))|((first |refine zab rfl rfl ?_ ?_);focus (first |omega|exact le_ rfl|((repeat' refine And.intro ?_ ?_)<;>omega)))|refine zaB rfl ?_|refine zaq rfl ?_|fail)
    all_goals first
      | rfl
      | trace_state
  have hi' : (i : Int) < ((rows.getD (Int.toNat 0) []).length : Int) := by
    show (i : Int) < ((rows.getD 0 []).length : Int)
    omega
  have hx := zit rows j i
  rw [← g3] at hx
  have cJ := zdH ((rows.getD (Int.toNat 0) []).getD (i : Int).toNat []) j h1 h2
  have hjj : joinedP j ((rows.getD (Int.toNat 0) []).getD (i : Int).toNat []) = joinedP j ((namesR rows).getD i []) := by rw [hnat]; rfl
  rw [hjj] at cJ
  cases hb : joinedP j ((namesR rows).getD i []) with
  | false =>
    rw [hb] at cJ
    rw [if_neg (by rw [hb]; exact Bool.false_ne_true), List.append_nil] at hx
    repeat' (first |refine zae (f := 45) rfl rfl Tryz.call45 rfl cJ ?_|with_reducible (first |refine zah ?_|refine zaa ?_|refine zag ?_|refine zad ?_|refine zai ?_|refine zat ?_|refine zaf ?_|refine zas ?_|refine zaC ?_)|refine zab rfl rfl True.intro ?_|refine zau rfl ?_|((first |refine zac rfl ?_ ?_)<;>intro<;>try (first |(exfalso;omega)))|((first |refine zab rfl rfl ?_ ?_);focus (first |omega|exact le_ rfl|((repeat' refine And.intro ?_ ?_)<;>omega)))|refine zaB rfl ?_|with_reducible refine ⟨by kernel_rfl, ?_⟩|fail)
    all_goals first
      | exact ⟨(i + 1, out), ⟨by dsimp only; omega, by dsimp only; omega, hx.symm⟩, by dsimp only; omega, ⟨rfl, rfl, rfl, rfl, trivial⟩, ⟨rfl, rfl, trivial⟩, rfl, by rw [hX]; simp⟩
      | (exfalso; omega)
      | trace_state
  | true =>
  rw [hb] at cJ
  rw [if_pos hb, znG] at hx
  repeat' (first |refine zae (f := 45) rfl rfl Tryz.call45 rfl cJ ?_|with_reducible (first |refine zah ?_|refine zaa ?_|refine zag ?_|refine zad ?_|refine zai ?_|refine zaf ?_|refine zaC ?_)|refine zab rfl rfl True.intro ?_|refine zal rfl ?_|((first |refine zac rfl ?_ ?_)<;>intro<;>try (first |(exfalso;omega)))|((first |refine zab rfl rfl ?_ ?_);focus (first |omega|exact le_ rfl|((repeat' refine And.intro ?_ ?_)<;>omega)))|with_reducible refine ⟨by kernel_rfl, ?_⟩|fail)
  refine T.loop hL (fun x : Nat × Bool × Bool => [(0, .sl 1 rows.length (Csv.tabF rows)), (3, .pv 3 0), (5, .gs 5 2 out.length (prF out)), (6, .i .i64 i), (7, .b x.2.1), (8, .b x.2.2), (9, .i .i64 ((x.1 + 1 : Nat) : Int))]) (fun _ => [(3, .var (jnP j)), (5, .row 54 2 out.length)])
    (fun x => x.1 ≤ rows.length - 1 ∧ x.2.1 = decide (0 < (valsTo rows j i x.1).length) ∧ x.2.2 = (valsTo rows j i x.1).all isNumK) (fun x => rows.length - 1 - x.1) (0, false, true) ⟨Nat.zero_le _, rfl, rfl⟩
    ⟨⟨rfl, rfl, rfl, rfl, rfl, rfl, rfl, trivial⟩, ⟨rfl, rfl, trivial⟩, rfl, by rw [hX]; simp⟩ ?_
  rintro ⟨m, so, al⟩ ⟨f1, f2, f3⟩
  try dsimp only at f1 f2 f3 ⊢
  have mnat : ((m + 1 : Nat) : Int).toNat = m + 1 := Int.toNat_natCast _
  by_cases hm : m < rows.length - 1
  rotate_left
  · have hm' : ¬ ((m + 1 : Nat) : Int) < (rows.length : Int) := by omega
    rw [show m = rows.length - 1 by omega] at f2 f3
    rw [← f2, ← f3] at hx
    have hnm0 : (namesR rows).getD i [] = (rows.getD (Int.toNat 0) []).getD (i : Int).toNat [] := by rw [hnat]; rfl
    rw [hnm0] at hx
    clear f2 f3
    cases so <;> cases al
    · rw [if_neg (fun q => Bool.false_ne_true q.1)] at hx
      repeat' (first |with_reducible (first |refine zah ?_|refine zaa ?_|refine zag ?_|refine zad ?_|refine zai ?_|refine zat ?_|refine zao ?_|refine zas ?_)|refine zab rfl rfl True.intro ?_|refine zap rfl rfl rfl ?_|refine zal rfl ?_|((first |refine zac rfl ?_ ?_)<;>intro<;>try (first |(exfalso;omega)))|((first |refine zab rfl rfl ?_ ?_|refine zav rfl rfl ?_ ?_);focus (first |omega|exact le_ rfl|((repeat' refine And.intro ?_ ?_)<;>omega)|((repeat' refine And.intro ?_ ?_)<;>first |omega|rfl)))|refine zaB rfl ?_|fail)
      all_goals first
        | exact ⟨(i + 1, out ++ [((rows.getD (Int.toNat 0) []).getD (i : Int).toNat [], stringT)]), ⟨by dsimp only; omega, by dsimp only; rw [List.length_append]; simp; omega, by dsimp only; exact hx.symm⟩, by dsimp only; omega, ⟨rfl, rfl, zdd 5 out _ _ rfl, rfl, trivial⟩, ⟨rfl, by rw [List.length_append]; rfl, trivial⟩, rfl, by rw [hX]; simp⟩
        | (exfalso; omega)
        | trace_state
    · rw [if_neg (fun q => Bool.false_ne_true q.1)] at hx
      repeat' (first |with_reducible (first |refine zah ?_|refine zaa ?_|refine zag ?_|refine zad ?_|refine zai ?_|refine zat ?_|refine zao ?_|refine zas ?_)|refine zab rfl rfl True.intro ?_|refine zap rfl rfl rfl ?_|refine zal rfl ?_|((first |refine zac rfl ?_ ?_)<;>intro<;>try (first |(exfalso;omega)))|((first |refine zab rfl rfl ?_ ?_|refine zav rfl rfl ?_ ?_);focus (first |omega|exact le_ rfl|((repeat' refine And.intro ?_ ?_)<;>omega)|((repeat' refine And.intro ?_ ?_)<;>first |omega|rfl)))|refine zaB rfl ?_|fail)
      all_goals first
        | exact ⟨(i + 1, out ++ [((rows.getD (Int.toNat 0) []).getD (i : Int).toNat [], stringT)]), ⟨by dsimp only; omega, by dsimp only; rw [List.length_append]; simp; omega, by dsimp only; exact hx.symm⟩, by dsimp only; omega, ⟨rfl, rfl, zdd 5 out _ _ rfl, rfl, trivial⟩, ⟨rfl, by rw [List.length_append]; rfl, trivial⟩, rfl, by rw [hX]; simp⟩
        | (exfalso; omega)
        | trace_state
    · rw [if_neg (fun q => Bool.false_ne_true q.2)] at hx
      repeat' (first |with_reducible (first |refine zah ?_|refine zaa ?_|refine zag ?_|refine zad ?_|refine zai ?_|refine zat ?_|refine zao ?_|refine zas ?_)|refine zab rfl rfl True.intro ?_|refine zaj rfl rfl rfl rfl True.intro ?_|refine zal rfl ?_|((first |refine zac rfl ?_ ?_)<;>intro<;>try (first |(exfalso;omega)))|((first |refine zab rfl rfl ?_ ?_|refine zav rfl rfl ?_ ?_);focus (first |omega|exact le_ rfl|((repeat' refine And.intro ?_ ?_)<;>omega)|((repeat' refine And.intro ?_ ?_)<;>first |omega|rfl)))|refine zaB rfl ?_|fail)
      all_goals first
        | exact ⟨(i + 1, out ++ [((rows.getD (Int.toNat 0) []).getD (i : Int).toNat [], stringT)]), ⟨by dsimp only; omega, by dsimp only; rw [List.length_append]; simp; omega, by dsimp only; exact hx.symm⟩, by dsimp only; omega, ⟨rfl, rfl, zdd 5 out _ _ rfl, rfl, trivial⟩, ⟨rfl, by rw [List.length_append]; rfl, trivial⟩, rfl, by rw [hX]; simp⟩
        | (exfalso; omega)
        | trace_state
    · rw [if_pos ⟨rfl, rfl⟩] at hx
      repeat' (first |with_reducible (first |refine zah ?_|refine zaa ?_|refine zag ?_|refine zad ?_|refine zat ?_|refine zao ?_|refine zas ?_)|refine zab rfl rfl True.intro ?_|refine zaj rfl rfl rfl rfl True.intro ?_|refine zau rfl ?_|((first |refine zac rfl ?_ ?_)<;>intro<;>try (first |(exfalso;omega)))|((first |refine zab rfl rfl ?_ ?_|refine zav rfl rfl ?_ ?_);focus (first |omega|exact le_ rfl|((repeat' refine And.intro ?_ ?_)<;>omega)|((repeat' refine And.intro ?_ ?_)<;>first |omega|rfl)))|refine zaB rfl ?_|fail)
      all_goals first
        | exact ⟨(i + 1, out ++ [((rows.getD (Int.toNat 0) []).getD (i : Int).toNat [], numberT)]), ⟨by dsimp only; omega, by dsimp only; rw [List.length_append]; simp; omega, by dsimp only; exact hx.symm⟩, by dsimp only; omega, ⟨rfl, rfl, zdd 5 out _ _ rfl, rfl, trivial⟩, ⟨rfl, by rw [List.length_append]; rfl, trivial⟩, rfl, by rw [hX]; simp⟩
        | (exfalso; omega)
        | trace_state
  have hm' : ((m + 1 : Nat) : Int) < (rows.length : Int) := by omega
  have hrow := (good (m + 1) (by omega)).1
  have b1 : (i : Int) < ((rows.getD ((m + 1 : Nat) : Int).toNat []).length : Int) := by rw [mnat]; omega
  have hcell : ((rows.getD ((m + 1 : Nat) : Int).toNat []).getD (i : Int).toNat []).length ≤ n := by
    rw [mnat]
    exact zev good (by omega)
  have c := zfQ ((rows.getD ((m + 1 : Nat) : Int).toNat []).getD (i : Int).toNat []) (by omega) j.texts
  have hce : cellR rows (m + 1) i = (rows.getD ((m + 1 : Nat) : Int).toNat []).getD (i : Int).toNat [] := by
    rw [hnat, mnat]
    rfl
  have vN := zgf (rows := rows) (j := j) (i := i) (r := m)
  have vS := fun v => zgi (rows := rows) (j := j) (i := i) (r := m) (v := v)
  rw [hce] at vN vS
  clear hce hcell hx
  generalize typedF ((rows.getD ((m + 1 : Nat) : Int).toNat []).getD (i : Int).toNat []) j.texts = tv at c vN vS
  obtain ⟨v, b⟩ := tv
  cases b with
  | false =>
    have vN := vN rfl
    rw [← vN] at f2 f3
    clear vN vS
    cases so <;> cases al
    repeat' (first |refine zae (f := 44) rfl rfl Tryz.call44 rfl c ?_|with_reducible (first |refine zah ?_|refine zaa ?_|refine zag ?_|refine zad ?_|refine zai ?_|refine zaf ?_|refine zao ?_|refine zaC ?_)|refine zab rfl rfl True.intro ?_|refine zap rfl rfl rfl ?_|refine zbP rfl rfl rfl ?_|refine zaj rfl rfl rfl rfl True.intro ?_|((first |refine zac rfl ?_ ?_)<;>intro<;>try (first |(exfalso;omega)))|((first |refine zab rfl rfl ?_ ?_|refine zav rfl rfl ?_ ?_|refine zaH rfl ?_ ?_);focus (first |omega|exact le_ rfl|((repeat' refine And.intro ?_ ?_)<;>omega)|((repeat' refine And.intro ?_ ?_)<;>first |rfl|exact Nat.le_refl _)))|with_reducible refine ⟨by kernel_rfl, ?_⟩|fail)
    all_goals first
      | exact ⟨(m + 1, _, _), ⟨by dsimp only; omega, f2, f3⟩, by dsimp only; omega, ⟨rfl, rfl, rfl, rfl, rfl, rfl, rfl, trivial⟩, ⟨rfl, rfl, trivial⟩, rfl, by rw [hX]; simp⟩
      | (exfalso; omega)
      | trace_state
  | true =>
    have vS := vS v rfl
    have f2' : true = decide (0 < (valsTo rows j i (m + 1)).length) := by rw [vS, List.length_append]; exact (decide_eq_true (by simp)).symm
    have f3' : (al && isNumK v) = (valsTo rows j i (m + 1)).all isNumK := by rw [vS, List.all_append, ← f3]; simp
    have cK := zlC v
    have hkb := zhu v
    clear vN vS f3 f2
    generalize isNumK v = q at hkb f3'
    cases so <;> cases al <;> cases q
    repeat' (first |refine zae (f := 44) rfl rfl Tryz.call44 rfl c ?_|refine zaw (f := 49) rfl rfl rfl rfl Tryz.call49 rfl cK ?_|with_reducible (first |refine zah ?_|refine zaa ?_|refine zag ?_|refine zad ?_|refine zai ?_|refine zaf ?_|refine zao ?_|refine zaC ?_)|refine zab rfl rfl True.intro ?_|refine zap rfl rfl rfl ?_|refine zbP rfl rfl rfl ?_|refine zaj rfl rfl rfl rfl True.intro ?_|((first |refine zac rfl ?_ ?_|refine zaT rfl rfl ?_ ?_)<;>intro<;>try (first |(rename_i hz;exact tf_ hz)|(exfalso;omega)))|((first |refine zab rfl rfl ?_ ?_|refine zaj rfl rfl rfl rfl ?_ ?_|refine zav rfl rfl ?_ ?_|refine zaH rfl ?_ ?_);focus (first |omega|exact le_ rfl|((repeat' refine And.intro ?_ ?_)<;>omega)|((repeat' refine And.intro ?_ ?_)<;>first |rfl|exact Nat.le_refl _)))|with_reducible refine ⟨by kernel_rfl, ?_⟩|fail)
    all_goals first
      | exact ⟨(m + 1, true, _), ⟨by dsimp only; omega, f2', f3'⟩, by dsimp only; omega, ⟨rfl, rfl, rfl, rfl, rfl, rfl, rfl, trivial⟩, ⟨rfl, rfl, trivial⟩, rfl, by rw [hX]; simp⟩
      | exact ⟨(m + 1, true, _), ⟨by dsimp only; omega, f2', f3'⟩, by dsimp only; omega, ⟨rfl, rfl, rfl, rfl, rfl, congrArg D.b hkb, rfl, trivial⟩, ⟨rfl, rfl, trivial⟩, rfl, by rw [hX]; simp⟩
      | (exfalso; omega)
      | trace_state
end Go.Proofs.YtkkaamhocpmhkaaGreatDoor.Flow
