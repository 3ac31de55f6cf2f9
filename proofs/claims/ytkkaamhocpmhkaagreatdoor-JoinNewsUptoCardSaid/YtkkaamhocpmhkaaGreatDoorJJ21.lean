/- The texts FlowZn, H11, LibsI, D11, D17a, D12, T2, D16, one behind the other. -/
import Derived.Test.YtkkaamhocpmhkaaGreatDoorJJ13
import Derived.Test.YtkkaamhocpmhkaaGreatDoorJJ14
import Derived.Test.YtkkaamhocpmhkaaGreatDoorJJ15
import Derived.Test.YtkkaamhocpmhkaaGreatDoorJJ19
import Derived.Test.YtkkaamhocpmhkaaGreatDoorJJ20
namespace Go.Proofs.YtkkaamhocpmhkaaGreatDoor.Flow
open Go
section
variable {P : Program} {X : Ctx} {n : Nat} {o : Oper} {fr : Fr} {ow : Ow} {k : Nat} {ty ty2 : TypeId} {x y : Operand}
theorem zqM {w : World} {tp te : TypeId} {a : Addr} (hp : P.underlying tp = some (.pointer te)) (d : Nat) :
    (Op.equalIn (d + 1) tp (.pointer (some a)) (.pointer none)).run P w = .ok false w := by
  simp [Op.equalIn, run_underlying hp]
theorem zhq {te : TypeId} {neg : Bool} (hp : P.underlying ty = some (.pointer te)) (ho : o.op = .binOp (if neg then .neq else .eql) ty x y ty2) (hx : ev fr x = .pv k 0) (hy : ev fr y = .v (.pointer none)) (hd : dstOk o.dst n) :
    ∀ F' O', (∀ y ∈ o.op.operands.toList, evF F' y = evF (fF fr) y) → (∀ j ∈ ([] : List Nat), O' j = fO ow j) → StepAt P X n o F' O' (.b neg) [] := by
  intro F' O' he hO
  refine zay hd fun a w S r hH hI hr => ?_
  have hx' := hr x
  rw [he x (by simp [ho, Op.operands]), zaX, hx] at hx'
  have hy' := hr y
  rw [he y (by simp [ho, Op.operands]), zaX, hy] at hy'
  generalize hvx : a.eval x = vx at hx'
  generalize hvy : a.eval y = vy at hy'
  cases hx' with
  | pv _ _ b q hq =>
  cases hy'
  have hrun := zqM (P := P) (w := w) (a := ⟨q, 0, none⟩) hp 9999
  cases neg with
  | false =>
    refine zaA hH hI rfl ?_ (show Rel S w r (.b false) (.bool _) from .b ..)
    have e1 : binOp .eql ty (.pointer (some ⟨q, 0, none⟩)) (.pointer none) = (do pure (.bool (← Op.equalIn (9999 + 1) ty (.pointer (some ⟨q, 0, none⟩)) (.pointer none)))) := rfl
    simp [execOp, ho, hvx, hvy, eqGuard, e1, hrun, Result.andThen]
  | true =>
    refine zaA hH hI rfl ?_ (show Rel S w r (.b true) (.bool _) from .b ..)
    have e1 : binOp .neq ty (.pointer (some ⟨q, 0, none⟩)) (.pointer none) = (do pure (.bool (!(← Op.equalIn (9999 + 1) ty (.pointer (some ⟨q, 0, none⟩)) (.pointer none))))) := rfl
    simp [execOp, ho, hvx, hvy, eqGuard, e1, hrun, Result.andThen]
end
section
variable {X : Ctx} {n : Nat} {all rest : List Oper} {fr : Fr} {ow : Ow} {tr : List (List Nat × List Nat)} {K : Fr → Ow → List (List Nat × List Nat) → Prop}
variable {t k : Nat} {ty ty' ty2 : TypeId} {ps : String} {af : Array Edge} {x y : Operand}
set_option maxRecDepth 100000 in
theorem zen {te : TypeId} (hp : Tryz.prog.underlying ty = some (.pointer te)) (hx : ev fr x = .pv k 0) (hy : ev fr y = .v (.pointer none)) (hn : Nat.blt t n = true)
    (h : CT Tryz.prog X n all rest ((t, .b false) :: fr) ow (tr ++ [([], [])]) K) : CT Tryz.prog X n all (⟨some t, .binOp .eql ty x y ty2, ty', ps, af, none⟩ :: rest) fr ow tr K :=
  CT.cons (e := ⟨.b false, [], []⟩) (.plain rfl (zhq (neg := false) (o := ⟨some t, .binOp .eql ty x y ty2, ty', ps, af, none⟩) hp rfl hx hy (show t < n by simpa using hn))) (zaE ..) rfl h
end
section
variable {X : Ctx} {n : Nat} {all rest : List Oper} {fr : Fr} {ow : Ow} {tr : List (List Nat × List Nat)} {K : Fr → Ow → List (List Nat × List Nat) → Prop}
variable {k : Nat} {ty ty' t2 kt et : TypeId} {ps : String} {af : Array Edge} {x y : Operand} {key : List UInt8} {es : List (List UInt8 × D)}
end

theorem zaZ : Tryz.prog.underlying 28 = some (.pointer 74) := by kernel_rfl
theorem ziM {rows : List (List Tx)} {j : JnR} {k : Nat} (h : k < (colsR rows j).length) : (colsR rows j).getD k 0 < (namesR rows).length := by
  have hm : (colsR rows j).getD k 0 ∈ colsR rows j := by
    rw [show (colsR rows j).getD k 0 = (colsR rows j)[k] by simp [List.getD_eq_getElem?_getD, h]]
    exact List.getElem_mem h
  unfold colsR at hm ⊢
  exact List.mem_range.1 (List.mem_filter.1 hm).1
theorem zqQ {rows : List (List Tx)} {k : Nat} (key : Tx) : mget key (firstE (keysR rows k) (rows.length - 1)) = if Csv.idxI key (keysR rows k) < 0 then none else some (.i .i64 (Csv.idxI key (keysR rows k))) := by
  have h := zdp (keysR rows k) key (rows.length - 1) (by rw [zbL]; exact Nat.le_refl _)
  rwa [List.take_of_length_le (by rw [zbL]; exact Nat.le_refl _)] at h
theorem zem (rows : List (List Tx)) (j : JnR) : (tblO rows j).all (fun x => x.2.okIn [70, 68, 101]) = true := by
  unfold tblO
  rw [List.all_cons, List.all_cons, okFirst]
  rfl
theorem okT4 {fr : Fr} {ks : List Tx} {i n m : Nat} {t u : TypeId} {z : Nat} {cs : List D} (h : okAll [70, 68, 101, 8] fr [(70, .var cs), (101, .row t 1 n), (8, .row u z m)] = true) : okAll [70, 68, 101, 8] fr [(70, .var cs), (68, .mp (firstE ks i)), (101, .row t 1 n), (8, .row u z m)] = true := by
  unfold okAll at h ⊢
  rw [List.all_cons, List.all_cons, okFirst]
  rw [List.all_cons] at h
  exact h
theorem znR {α β : Type} (g : α → Option β) (d : α) {l : List α} {i : Nat} (h : i < l.length) : (l.take (i + 1)).filterMap g = (l.take i).filterMap g ++ (g (l.getD i d)).toList := by
  rw [List.take_add_one, List.filterMap_append, List.getElem?_eq_getElem h]
  congr 1
  rw [show l.getD i d = l[i] by simp [List.getD_eq_getElem?_getD, h]]
  cases hq : g l[i] <;> simp [hq]
theorem zev {n : Nat} {rows : List (List Tx)} (h : Csv.goodR n rows) {r i : Nat} (hr : r < rows.length) : ((rows.getD r []).getD i []).length ≤ n := by
  obtain ⟨_, _, h3⟩ := h r hr
  by_cases hi : i < (rows.getD r []).length
  · exact h3 _ (zjZ hi)
  · rw [show (rows.getD r []).getD i [] = [] by rw [List.getD_eq_getElem?_getD, List.getElem?_eq_none (Nat.le_of_not_lt hi)]; rfl]
    exact Nat.zero_le _
set_option maxRecDepth 100000 in
set_option maxHeartbeats 16000000 in
theorem zgL (rows : List (List Tx)) (j : JnR) (key : Tx) (n : Nat) (hT : RightT n rows j) (hn : n ≤ 1000000) : CtrO Tryz.prog 13 [.pv 70 0, .s key] (tblO rows j) (.tu [.sl 4 (rowV rows j key).1.length (atrF (rowV rows j key).1), .b (rowV rows j key).2]) (tblO rows j) := by
  obtain ⟨few, some1, good, hkey, hnames⟩ := hT
  have hg := zqQ (rows := rows) (k := colK rows j) key
  have hil := (zcD key (keysR rows (colK rows j))).2
  rw [zbL] at hil
  have hcl := fun k hk => ziM (rows := rows) (j := j) (k := k) hk
  have hnl : (namesR rows).length ≤ n + 1 := (zaI good).1
  have hcn : (colsR rows j).length ≤ (namesR rows).length := by
    unfold colsR
    exact Nat.le_trans (List.length_filter_le ..) (by rw [List.length_range]; exact Nat.le_refl _)
  unfold rowV
  refine zdb (ids := [70, 68, 101]) (ids2 := [70, 68, 101]) Tryz.func13 rfl Tryz.ntmps13 Tryz.results13 rfl rfl rfl (fun _ h => h) rfl (zem rows j) fun X hL hX => ?_
  unfold tblO
  by_cases h0 : Csv.idxI key (keysR rows (colK rows j)) < 0
  · rw [if_pos h0] at hg ⊢
    dsimp only
    repeat' (first |refine zen zaZ rfl rfl rfl ?_|refine zhh zbT Tryz.underlying9 rfl rfl rfl rfl hg rfl ?_|with_reducible (first |refine zah ?_|refine zaa ?_|refine zag ?_|refine zad ?_|refine zan ?_|refine zai ?_|refine zam ?_)|refine zab rfl rfl True.intro ?_|refine zau rfl ?_|refine zal rfl ?_|((first |refine zab rfl rfl ?_ ?_);focus (first |exact le_ rfl|((repeat' refine And.intro ?_ ?_)<;>omega)))|refine zcm rfl (.tu2 (.nil 4 _) (.refl _)) ⟨⟨rfl, rfl, rfl, trivial⟩⟩|fail)
    all_goals first
      | rfl
      | trace_state
  rw [if_neg h0] at hg ⊢
  dsimp only
  unfold attsJ
  generalize hix : Csv.idxI key (keysR rows (colK rows j)) = ix at *
  generalize hcs : colsR rows j = cs at *
  clear hix hkey hnames
  repeat' (first |refine zen zaZ rfl rfl rfl ?_|refine znd zbT Tryz.underlying9 rfl rfl rfl hg rfl ?_|refine T.adopt 8 8 47 4 (atrF []) rfl rfl ?_|with_reducible (first |refine zah ?_|refine zaa ?_|refine zag ?_|refine zad ?_|refine zai ?_|refine zaf ?_)|refine zab rfl rfl True.intro ?_|refine zal rfl ?_|((first |refine zab rfl rfl ?_ ?_);focus (first |exact le_ rfl|((repeat' refine And.intro ?_ ?_)<;>omega)))|fail)
  refine T.loop hL (fun x : Nat × List AtR => [(0, .pv 70 0), (6, .i .i64 ix), (8, .gs 8 4 x.2.length (atrF x.2)), (29, .gs 101 1 cs.length (colF cs)), (30, .i .i64 cs.length), (31, .i .i64 x.1)]) (fun x => [(70, .var (tblP rows j (.gs 101 1 cs.length (colF cs)))), (68, .mp (firstE (keysR rows (colK rows j)) (rows.length - 1))), (101, .row 3 1 cs.length), (8, .row 47 4 x.2.length)])
    (fun x => x.1 ≤ cs.length ∧ x.2.length ≤ x.1 ∧ x.2 = (cs.take x.1).filterMap (attAt rows j (ix.toNat + 1))) (fun x => cs.length - x.1) (0, []) ⟨Nat.zero_le _, Nat.le_refl _, by rw [List.take_zero]; rfl⟩
    ⟨⟨rfl, rfl, rfl, rfl, rfl, rfl, trivial⟩, ⟨rfl, rfl, rfl, rfl, trivial⟩, okT4 rfl, by rw [hX]; simp⟩ ?_
  rintro ⟨i, out⟩ ⟨g1, g2, g3⟩
  try dsimp only at g1 g2 g3 ⊢
  have hnat : (i : Int).toNat = i := Int.toNat_natCast i
  by_cases hi : i < cs.length
  rotate_left
  · have hi' : ¬ (i : Int) < (cs.length : Int) := by omega
    rw [List.take_of_length_le (by omega)] at g3
    rw [← g3]
    repeat' (first |with_reducible (first |refine zah ?_|refine zaa ?_|refine zag ?_|refine zad ?_|refine zan ?_|refine zat ?_|refine zas ?_)|refine zab rfl rfl True.intro ?_|((first |refine zac rfl ?_ ?_)<;>intro<;>try (first |(exfalso;omega)))|refine zaB rfl ?_|refine zcm rfl (.refl _) ⟨⟨rfl, rfl, rfl, trivial⟩⟩|fail)
    all_goals first
      | rfl
      | trace_state
  have hi' : (i : Int) < (cs.length : Int) := by omega
  have hnx := znR (attAt rows j (ix.toNat + 1)) 0 hi
  rw [← g3] at hnx
  have hlt := hcl i hi
  have hrow := (good (1 + ix.toNat) (by omega)).1
  have hcell := zev (i := cs.getD (i : Int).toNat 0) good (show 1 + ix.toNat < rows.length by omega)
  have hnm : (namesR rows).length = (rows.getD 0 []).length := rfl
  have b1 : ((cs.getD (i : Int).toNat 0 : Nat) : Int) < ((rows.getD (1 + ix.toNat) []).length : Int) := by rw [hnat]; omega
  have b2 : ((cs.getD (i : Int).toNat 0 : Nat) : Int) < ((rows.getD 0 []).length : Int) := by rw [hnat]; omega
  have b3 : ix < ((rows.length - 1 : Nat) : Int) := by omega
  have hat : attAt rows j (ix.toNat + 1) (cs.getD i 0) = if (typedF ((rows.getD (1 + ix.toNat) []).getD ((cs.getD (i : Int).toNat 0 : Nat) : Int).toNat []) j.texts).2 = true then some (((rows.getD 0 []).getD ((cs.getD (i : Int).toNat 0 : Nat) : Int).toNat []), (typedF ((rows.getD (1 + ix.toNat) []).getD ((cs.getD (i : Int).toNat 0 : Nat) : Int).toNat []) j.texts).1) else none := by
    rw [hnat, Int.toNat_natCast, Nat.add_comm 1]
    rfl
  have hcell2 : (((rows.getD (1 + ix.toNat) []).getD ((cs.getD (i : Int).toNat 0 : Nat) : Int).toNat [])).length ≤ n := hcell
  have c := zhO ((rows.getD (1 + ix.toNat) []).getD ((cs.getD (i : Int).toNat 0 : Nat) : Int).toNat []) (by omega) j.texts
  rw [hat] at hnx
  clear hat hcell hcell2
  generalize typedF ((rows.getD (1 + ix.toNat) []).getD ((cs.getD (i : Int).toNat 0 : Nat) : Int).toNat []) j.texts = tv at c hnx
  obtain ⟨v, b⟩ := tv
  cases b with
  | true =>
    rw [if_pos rfl] at hnx
    repeat' (first |refine zae (f := 42) rfl rfl Tryz.call42 rfl c ?_|with_reducible (first |refine zah ?_|refine zaa ?_|refine zag ?_|refine zad ?_|refine zai ?_|refine zaf ?_|refine zao ?_|refine zaC ?_)|refine zab rfl rfl True.intro ?_|refine zau rfl ?_|((first |refine zac rfl ?_ ?_)<;>intro<;>try (first |(exfalso;omega)))|((first |refine zab rfl rfl ?_ ?_|refine zav rfl rfl ?_ ?_|refine zaH rfl ?_ ?_);focus (first |omega|exact le_ rfl|((repeat' refine And.intro ?_ ?_)<;>omega)|((repeat' refine And.intro ?_ ?_)<;>first |omega|rfl|exact Nat.le_refl _)))|with_reducible refine ⟨by kernel_rfl, ?_⟩|fail)
    all_goals first
      | exact ⟨(i + 1, out ++ [(((rows.getD 0 []).getD ((cs.getD (i : Int).toNat 0 : Nat) : Int).toNat []), v)]), ⟨by dsimp only; omega, by dsimp only; rw [List.length_append]; simp; omega, by dsimp only; exact hnx.symm⟩, by dsimp only; omega, ⟨rfl, rfl, zmw 8 out (((rows.getD 0 []).getD ((cs.getD (i : Int).toNat 0 : Nat) : Int).toNat []), v) _ rfl, rfl, rfl, rfl, trivial⟩, ⟨rfl, rfl, rfl, by rw [List.length_append]; rfl, trivial⟩, okT4 rfl, by rw [hX]; simp⟩
      | (exfalso; omega)
      | trace_state
  | false =>
    rw [if_neg Bool.false_ne_true] at hnx
    replace hnx : (cs.take (i + 1)).filterMap (attAt rows j (ix.toNat + 1)) = out := hnx.trans (List.append_nil _)
    repeat' (first |refine zae (f := 42) rfl rfl Tryz.call42 rfl c ?_|with_reducible (first |refine zah ?_|refine zaa ?_|refine zag ?_|refine zad ?_|refine zai ?_|refine zaf ?_|refine zao ?_|refine zaC ?_)|refine zab rfl rfl True.intro ?_|refine zal rfl ?_|((first |refine zac rfl ?_ ?_)<;>intro<;>try (first |(exfalso;omega)))|((first |refine zab rfl rfl ?_ ?_|refine zav rfl rfl ?_ ?_|refine zaH rfl ?_ ?_);focus (first |omega|exact le_ rfl|((repeat' refine And.intro ?_ ?_)<;>omega)|((repeat' refine And.intro ?_ ?_)<;>first |rfl|exact Nat.le_refl _)))|with_reducible refine ⟨by kernel_rfl, ?_⟩|fail)
    all_goals first
      | exact ⟨(i + 1, out), ⟨by dsimp only; omega, by dsimp only; omega, by dsimp only; exact hnx.symm⟩, by dsimp only; omega, ⟨rfl, rfl, rfl, rfl, rfl, rfl, trivial⟩, ⟨rfl, rfl, rfl, rfl, trivial⟩, okT4 rfl, by rw [hX]; simp⟩
      | (exfalso; omega)
      | trace_state

theorem zgF {S : Cells} {w : World} (hg : GOk S w) : Lib.TabIs Tryz.prog w "internal/strconv.uint64pow10" .u64 Lib.pow10Tab := by
  have hn : Tryz.prog.globalNamed "internal/strconv.uint64pow10" = some 2 := by kernel_rfl
  have h1 := hg.rel 2
  have h2 := (hg.len 2 20 rfl).2
  have h3 : ∀ j, j < 20 → w.cell? ⟨2, j, none⟩ = some (.int .u64 (powZ j)) := by
    cases h1 with
    | rn _ _ _ _ _ _ h => exact fun j hj => (h j hj).2
  have h0 := h3 0 (by decide)
  unfold Lib.TabIs
  simp only [World.var?, hn, Option.bind_some]
  cases hh : w.heap[2]? with
  | none => simp [World.cell?, hh] at h0
  | some o =>
    cases o with
    | cells cs t fr =>
      simp only [Option.some.injEq]
      have h4 : ∀ j, j < 20 → cs[j]? = some (.int .u64 (powZ j)) := fun j hj => by
        have := h3 j hj
        simpa [World.cell?, hh] using this
      have h5 : cs[20]? = none := by simpa [World.cell?, hh] using h2
      apply Array.ext_getElem?
      intro j
      by_cases hj : j < 20
      · rw [h4 j hj]
        simp [Lib.pow10Tab, hj, powZ]
      · have : cs.size ≤ 20 := by simpa using h5
        rw [Array.getElem?_eq_none (by omega), Array.getElem?_eq_none (by simp [Lib.pow10Tab]; omega)]
    | _ => simp [World.cell?, hh] at h0
theorem zke (n : Int) (h0 : -9223372036854775808 ≤ n) (h1 : n ≤ 9223372036854775807) : Ctr Tryz.prog 56 [.i .i64 n] (.s (Lib.itoa n)) := by
  intro w S vs hv hg hn hr
  have h := hr 0 (by simp)
  rw [zoa hn]
  generalize vs.getD 0 undef = v0 at *
  cases h
  refine (Tryz.strconv_Itoa n h0 h1 w (zgF hg)).mono ?_
  rintro e w' ⟨rfl, k, os, rfl⟩
  exact ⟨_, S, rfl, .s _ _, zbU hv hg (zcY w k os)⟩

theorem zoS (neg : Bool) (s : List UInt8) (e : Int) (hs : s.length ≤ 1048576) (h : ¬ RightP neg s e) : Ctr Tryz.prog 119 [dcD neg s e] (.s []) := by
  have c1 := zbE neg s e (by omega)
  rw [zcJ h] at c1
  refine zax Tryz.func119 rfl Tryz.ntmps119 Tryz.results119 rfl rfl fun X hL hX => ?_
  repeat' (first |with_reducible (first |refine zah ?_|refine zaa ?_|refine zag ?_|refine zad ?_|refine zan ?_|refine zam ?_)|refine zab rfl rfl True.intro ?_|refine zau rfl ?_|((first |refine zab rfl rfl ?_ ?_|refine zav rfl rfl ?_ ?_);focus (first |exact le_ rfl|((repeat' refine And.intro ?_ ?_)<;>omega)|((repeat' refine And.intro ?_ ?_)<;>first |rfl)))|refine zaq rfl ?_|refine zae (f := 127) rfl rfl Tryz.call127 rfl c1 ?_|fail)
  rfl
theorem zmL (neg : Bool) (s : List UInt8) (e : Int) (hs : s.length ≤ 1048576) (h : ¬ RightP neg s e) : Ctr Tryz.prog 92 [dcD neg s e] (.s []) := by
  have c1 := zbB neg s e (by omega)
  rw [zcJ h] at c1
  refine zax Tryz.func92 rfl Tryz.ntmps92 Tryz.results92 rfl rfl fun X hL hX => ?_
  repeat' (first |with_reducible (first |refine zah ?_|refine zaa ?_|refine zag ?_|refine zad ?_|refine zan ?_|refine zam ?_)|refine zab rfl rfl True.intro ?_|refine zau rfl ?_|((first |refine zab rfl rfl ?_ ?_|refine zav rfl rfl ?_ ?_);focus (first |exact le_ rfl|((repeat' refine And.intro ?_ ?_)<;>omega)|((repeat' refine And.intro ?_ ?_)<;>first |rfl)))|refine zaq rfl ?_|refine zae (f := 135) rfl rfl Tryz.call135 rfl c1 ?_|fail)
  rfl
section
variable {s : List UInt8} {e : Int}
theorem zmC (h : 0 ≤ e) (h2 : s.length + e ≤ 21) : textU s e = s ++ zs e.toNat := if_pos ⟨h, h2⟩
theorem znT (h : ¬ (0 ≤ e ∧ s.length + e ≤ 21)) (h2 : 1 ≤ s.length + e) (h3 : s.length + e < s.length) : textU s e = s.take (s.length + e).toNat ++ [46] ++ s.drop (s.length + e).toNat := by
  unfold textU
  rw [if_neg h, if_pos ⟨h2, h3⟩]
theorem zmn (h : ¬ (0 ≤ e ∧ s.length + e ≤ 21)) (h2 : -6 ≤ s.length + e) (h3 : s.length + e ≤ 0) : textU s e = [48, 46] ++ zs (-(s.length + e)).toNat ++ s := by
  unfold textU
  rw [if_neg h, if_neg (by omega), if_pos ⟨h2, h3⟩]
theorem zlU (h : ¬ (0 ≤ e ∧ s.length + e ≤ 21)) (h2 : ¬ (1 ≤ s.length + e ∧ s.length + e < s.length)) (h3 : ¬ (-6 ≤ s.length + e ∧ s.length + e ≤ 0)) : textU s e = s.take 1 ++ (if 1 < s.length then [46] ++ s.drop 1 else []) ++ [101] ++ Lib.itoa (s.length + e - 1) := by
  unfold textU
  rw [if_neg h, if_neg h2, if_neg h3]
end
set_option maxHeartbeats 2000000 in
theorem zqu (neg : Bool) (s : List UInt8) (e : Int) (h : RightP neg s e) (h0 : ¬ s.length = 0) : Ctr Tryz.prog 119 [dcD neg s e] (.s ((if neg = true then [45] else []) ++ textU s e)) := by
  obtain ⟨b1, b2, b3, b4⟩ := h.bounds
  have c1 := zbE neg s e (by omega)
  rw [zaY.2 h] at c1
  have c2 := fun h => ziP e h (by omega)
  have c3 := fun h => ziP (-(s.length + e)) h (by omega)
  have c4 := zke (s.length + e - 1) (by omega) (by omega)
  have l4 := zkq (s.length + e - 1) (by omega) (by omega)
  have u1 := fun h h2 => zmC (s := s) (e := e) h h2
  have u2 := fun h h2 h3 => znT (s := s) (e := e) h h2 h3
  have u3 := fun h h2 h3 => zmn (s := s) (e := e) h h2 h3
  have u4 := fun h h2 h3 => zlU (s := s) (e := e) h h2 h3
  have lz : ∀ n : Nat, (zs n).length = n := fun n => by simp
  generalize textU s e = U at *
  generalize Lib.itoa (s.length + e - 1) = I at *
  clear h
  refine zax Tryz.func119 rfl Tryz.ntmps119 Tryz.results119 rfl rfl fun X hL hX => ?_
  cases neg with
  | false =>
    repeat' (first |with_reducible (first |refine zah ?_|refine zaa ?_|refine zag ?_|refine zad ?_|refine zan ?_|refine zai ?_|refine zaf ?_|refine zao ?_|refine zam ?_|refine zaz ?_|refine zaC ?_)|refine zab rfl rfl True.intro ?_|refine zap rfl rfl rfl ?_|refine zaj rfl rfl rfl rfl True.intro ?_|refine zal rfl ?_|((first |refine zac rfl ?_ ?_|refine zak rfl rfl ?_ ?_)<;>intro<;>try (first |(exfalso;omega)))|((first |refine zab rfl rfl ?_ ?_|refine zav rfl rfl ?_ ?_);focus (first |(simp only [List.length_append, List.length_drop, List.length_take, lz, List.length_cons, List.length_nil];omega)|omega|exact le_ rfl|((repeat' refine And.intro ?_ ?_)<;>omega)|((repeat' refine And.intro ?_ ?_)<;>first |rfl)))|with_reducible refine ⟨by kernel_rfl, ?_⟩|refine zaq rfl ?_|refine zae (f := 127) rfl rfl Tryz.call127 rfl c1 ?_|refine zae (f := 128) rfl rfl Tryz.call128 rfl (c2 (by omega)) ?_|refine zae (f := 128) rfl rfl Tryz.call128 rfl (c3 (by omega)) ?_|refine zae (f := 56) rfl rfl Tryz.call56 rfl c4 ?_|fail)
    · rw [u1 (by omega) (by omega)]
      exact congrArg D.s (by simp)
    · rw [u4 (by omega) (by omega) (by omega), if_pos (show 1 < s.length by omega)]
      exact congrArg D.s (by simp)
    · rw [u4 (by omega) (by omega) (by omega), if_neg (show ¬ 1 < s.length by omega)]
      exact congrArg D.s (by simp)
    · rw [u2 (by omega) (by omega) (by omega)]
      exact congrArg D.s (by simp)
    · rw [u3 (by omega) (by omega) (by omega)]
      exact congrArg D.s (by simp)
    · rw [u4 (by omega) (by omega) (by omega), if_pos (show 1 < s.length by omega)]
      exact congrArg D.s (by simp)
    · rw [u4 (by omega) (by omega) (by omega), if_neg (show ¬ 1 < s.length by omega)]
      exact congrArg D.s (by simp)
  | true =>
    repeat' (first |with_reducible (first |refine zah ?_|refine zaa ?_|refine zag ?_|refine zad ?_|refine zan ?_|refine zai ?_|refine zaf ?_|refine zao ?_|refine zam ?_|refine zaz ?_|refine zaC ?_)|refine zab rfl rfl True.intro ?_|refine zap rfl rfl rfl ?_|refine zaj rfl rfl rfl rfl True.intro ?_|refine zau rfl ?_|refine zal rfl ?_|((first |refine zac rfl ?_ ?_|refine zak rfl rfl ?_ ?_)<;>intro<;>try (first |(exfalso;omega)))|((first |refine zab rfl rfl ?_ ?_|refine zav rfl rfl ?_ ?_);focus (first |(simp only [List.length_append, List.length_drop, List.length_take, lz, List.length_cons, List.length_nil];omega)|omega|exact le_ rfl|((repeat' refine And.intro ?_ ?_)<;>omega)|((repeat' refine And.intro ?_ ?_)<;>first |rfl)))|with_reducible refine ⟨by kernel_rfl, ?_⟩|refine zaq rfl ?_|refine zae (f := 127) rfl rfl Tryz.call127 rfl c1 ?_|refine zae (f := 128) rfl rfl Tryz.call128 rfl (c2 (by omega)) ?_|refine zae (f := 128) rfl rfl Tryz.call128 rfl (c3 (by omega)) ?_|refine zae (f := 56) rfl rfl Tryz.call56 rfl c4 ?_|fail)
    · rw [u1 (by omega) (by omega)]
      exact congrArg D.s (by simp)
    · rw [u4 (by omega) (by omega) (by omega), if_pos (show 1 < s.length by omega)]
      exact congrArg D.s (by simp)
    · rw [u4 (by omega) (by omega) (by omega), if_neg (show ¬ 1 < s.length by omega)]
      exact congrArg D.s (by simp)
    · rw [u2 (by omega) (by omega) (by omega)]
      exact congrArg D.s (by simp)
    · rw [u3 (by omega) (by omega) (by omega)]
      exact congrArg D.s (by simp)
    · rw [u4 (by omega) (by omega) (by omega), if_pos (show 1 < s.length by omega)]
      exact congrArg D.s (by simp)
    · rw [u4 (by omega) (by omega) (by omega), if_neg (show ¬ 1 < s.length by omega)]
      exact congrArg D.s (by simp)
set_option maxHeartbeats 2000000 in
theorem zpj (neg : Bool) (s : List UInt8) (e : Int) (h : RightP neg s e) (h0 : ¬ s.length = 0) : Ctr Tryz.prog 92 [dcD neg s e] (.s ((if neg = true then [45] else []) ++ textU s e)) := by
  obtain ⟨b1, b2, b3, b4⟩ := h.bounds
  have c1 := zbB neg s e (by omega)
  rw [zaY.2 h] at c1
  have c2 := fun h => zhQ e h (by omega)
  have c3 := fun h => zhQ (-(s.length + e)) h (by omega)
  have c4 := zoc (s.length + e - 1) (by omega) (by omega)
  have l4 := zkq (s.length + e - 1) (by omega) (by omega)
  have u1 := fun h h2 => zmC (s := s) (e := e) h h2
  have u2 := fun h h2 h3 => znT (s := s) (e := e) h h2 h3
  have u3 := fun h h2 h3 => zmn (s := s) (e := e) h h2 h3
  have u4 := fun h h2 h3 => zlU (s := s) (e := e) h h2 h3
  have lz : ∀ n : Nat, (zs n).length = n := fun n => by simp
  generalize textU s e = U at *
  generalize Lib.itoa (s.length + e - 1) = I at *
  clear h
  refine zax Tryz.func92 rfl Tryz.ntmps92 Tryz.results92 rfl rfl fun X hL hX => ?_
  cases neg with
  | false =>
    repeat' (first |with_reducible (first |refine zah ?_|refine zaa ?_|refine zag ?_|refine zad ?_|refine zan ?_|refine zai ?_|refine zaC ?_)|refine zab rfl rfl True.intro ?_|refine zap rfl rfl rfl ?_|refine zaj rfl rfl rfl rfl True.intro ?_|refine zal rfl ?_|((first |refine zac rfl ?_ ?_|refine zak rfl rfl ?_ ?_)<;>intro<;>try (first |(exfalso;omega)))|((first |refine zab rfl rfl ?_ ?_|refine zaj rfl rfl rfl rfl ?_ ?_|refine zav rfl rfl ?_ ?_);focus (first |(simp only [List.length_append, List.length_drop, List.length_take, lz, List.length_cons, List.length_nil];omega)|omega|exact le_ rfl|((repeat' refine And.intro ?_ ?_)<;>omega)|((repeat' refine And.intro ?_ ?_)<;>first |rfl)))|with_reducible refine ⟨by kernel_rfl, ?_⟩|refine zaq rfl ?_|refine zae (f := 135) rfl rfl Tryz.call135 rfl c1 ?_|refine zae (f := 141) rfl rfl Tryz.call141 rfl (c2 (by omega)) ?_|refine zae (f := 141) rfl rfl Tryz.call141 rfl (c3 (by omega)) ?_|refine zae (f := 142) rfl rfl Tryz.call142 rfl c4 ?_|fail)
    · rw [u1 (by omega) (by omega)]
      exact congrArg D.s (by simp)
    · rw [u4 (by omega) (by omega) (by omega), if_neg (show ¬ 1 < s.length by omega), List.take_of_length_le (show s.length ≤ 1 by omega)]
      exact congrArg D.s (by simp)
    · rw [u4 (by omega) (by omega) (by omega), if_pos (show 1 < s.length by omega)]
      exact congrArg D.s (by simp)
    · rw [u2 (by omega) (by omega) (by omega)]
      exact congrArg D.s (by simp)
    · rw [u3 (by omega) (by omega) (by omega)]
      exact congrArg D.s (by simp)
    · rw [u4 (by omega) (by omega) (by omega), if_neg (show ¬ 1 < s.length by omega), List.take_of_length_le (show s.length ≤ 1 by omega)]
      exact congrArg D.s (by simp)
    · rw [u4 (by omega) (by omega) (by omega), if_pos (show 1 < s.length by omega)]
      exact congrArg D.s (by simp)
  | true =>
    repeat' (first |with_reducible (first |refine zah ?_|refine zaa ?_|refine zag ?_|refine zad ?_|refine zan ?_|refine zai ?_|refine zam ?_|refine zaC ?_)|refine zab rfl rfl True.intro ?_|refine zap rfl rfl rfl ?_|refine zaj rfl rfl rfl rfl True.intro ?_|refine zau rfl ?_|refine zal rfl ?_|((first |refine zac rfl ?_ ?_|refine zak rfl rfl ?_ ?_)<;>intro<;>try (first |(exfalso;omega)))|((first |refine zab rfl rfl ?_ ?_|refine zaj rfl rfl rfl rfl ?_ ?_|refine zav rfl rfl ?_ ?_);focus (first |(simp only [List.length_append, List.length_drop, List.length_take, lz, List.length_cons, List.length_nil];omega)|omega|exact le_ rfl|((repeat' refine And.intro ?_ ?_)<;>omega)|((repeat' refine And.intro ?_ ?_)<;>first |rfl)))|with_reducible refine ⟨by kernel_rfl, ?_⟩|refine zaq rfl ?_|refine zae (f := 135) rfl rfl Tryz.call135 rfl c1 ?_|refine zae (f := 141) rfl rfl Tryz.call141 rfl (c2 (by omega)) ?_|refine zae (f := 141) rfl rfl Tryz.call141 rfl (c3 (by omega)) ?_|refine zae (f := 142) rfl rfl Tryz.call142 rfl c4 ?_|fail)
    · rw [u1 (by omega) (by omega)]
      exact congrArg D.s (by simp)
    · rw [u4 (by omega) (by omega) (by omega), if_neg (show ¬ 1 < s.length by omega), List.take_of_length_le (show s.length ≤ 1 by omega)]
      exact congrArg D.s (by simp)
    · rw [u4 (by omega) (by omega) (by omega), if_pos (show 1 < s.length by omega)]
      exact congrArg D.s (by simp)
    · rw [u2 (by omega) (by omega) (by omega)]
      exact congrArg D.s (by simp)
    · rw [u3 (by omega) (by omega) (by omega)]
      exact congrArg D.s (by simp)
    · rw [u4 (by omega) (by omega) (by omega), if_neg (show ¬ 1 < s.length by omega), List.take_of_length_le (show s.length ≤ 1 by omega)]
      exact congrArg D.s (by simp)
    · rw [u4 (by omega) (by omega) (by omega), if_pos (show 1 < s.length by omega)]
      exact congrArg D.s (by simp)

theorem zlR : Ctr Tryz.prog 119 [dcD false [] 0] (.s [48]) := by
  have c1 := zbE false [] 0 (by decide)
  have hr : rightB false [] 0 = true := by decide
  rw [hr] at c1
  refine zax Tryz.func119 rfl Tryz.ntmps119 Tryz.results119 rfl rfl fun X hL hX => ?_
  repeat' (first |with_reducible (first |refine zah ?_|refine zaa ?_|refine zag ?_|refine zad ?_|refine zan ?_|refine zai ?_|refine zaf ?_|refine zam ?_|refine zaz ?_)|refine zab rfl rfl True.intro ?_|refine zau rfl ?_|refine zal rfl ?_|((first |refine zab rfl rfl ?_ ?_|refine zav rfl rfl ?_ ?_);focus (first |exact le_ rfl|((repeat' refine And.intro ?_ ?_)<;>omega)|((repeat' refine And.intro ?_ ?_)<;>first |omega|rfl)|(simp_all;omega)))|refine zaq rfl ?_|refine zae (f := 127) rfl rfl Tryz.call127 rfl c1 ?_|fail)
  all_goals rfl
theorem zls : Ctr Tryz.prog 92 [dcD false [] 0] (.s [48]) := by
  have c1 := zbB false [] 0 (by decide)
  have hr : rightB false [] 0 = true := by decide
  rw [hr] at c1
  refine zax Tryz.func92 rfl Tryz.ntmps92 Tryz.results92 rfl rfl fun X hL hX => ?_
  repeat' (first |with_reducible (first |refine zah ?_|refine zaa ?_|refine zag ?_|refine zad ?_|refine zan ?_|refine zai ?_|refine zam ?_)|refine zab rfl rfl True.intro ?_|refine zau rfl ?_|refine zal rfl ?_|((first |refine zab rfl rfl ?_ ?_|refine zav rfl rfl ?_ ?_);focus (first |exact le_ rfl|((repeat' refine And.intro ?_ ?_)<;>omega)|((repeat' refine And.intro ?_ ?_)<;>first |rfl)))|refine zaq rfl ?_|refine zae (f := 135) rfl rfl Tryz.call135 rfl c1 ?_|fail)
  all_goals rfl
theorem zpi (neg : Bool) (s : List UInt8) (e : Int) (hs : s.length ≤ 1048576) : Ctr Tryz.prog 119 [dcD neg s e] (.s (textF neg s e)) := by
  by_cases h : RightP neg s e
  · by_cases h0 : s.length = 0
    · obtain ⟨rfl, rfl⟩ := (zca h0).1 h
      obtain rfl := zdV h0
      exact zlR
    · have := zqu neg s e h h0
      unfold textF
      rw [if_neg (fun h2 => h2 h), if_neg h0]
      exact this
  · have := zoS neg s e hs h
    unfold textF
    rw [if_pos h]
    exact this
theorem zno (neg : Bool) (s : List UInt8) (e : Int) (hs : s.length ≤ 1048576) : Ctr Tryz.prog 92 [dcD neg s e] (.s (textF neg s e)) := by
  by_cases h : RightP neg s e
  · by_cases h0 : s.length = 0
    · obtain ⟨rfl, rfl⟩ := (zca h0).1 h
      obtain rfl := zdV h0
      exact zls
    · have := zpj neg s e h h0
      unfold textF
      rw [if_neg (fun h2 => h2 h), if_neg h0]
      exact this
  · have := zmL neg s e hs h
    unfold textF
    rw [if_pos h]
    exact this

theorem zgz (n : Int) : (n < 0 → Lib.itoa n = 45 :: Lib.decDigits n.natAbs) ∧ (¬ n < 0 → Lib.itoa n = Lib.decDigits n.natAbs) := by
  unfold Lib.itoa
  constructor
  · intro h
    rw [if_pos h]
  · intro h
    rw [if_neg h, show n.toNat = n.natAbs by omega]
theorem zrl (n e : Int) (h0 : -9223372036854775808 ≤ n) (h1 : n ≤ 9223372036854775807) : Ctr Tryz.prog 120 [.i .i64 n, .i .i64 e] (dcV (ofF n e)) := by
  have c1 := zke n h0 h1
  obtain ⟨i1, i2⟩ := zgz n
  have hlD := zfv n.natAbs 19 (by omega) (by omega)
  have c2 := fun h : -2000 ≤ e ∧ e ≤ 2000 => zkd (decide (n < 0)) (Lib.decDigits n.natAbs) e (by omega) (by omega) (by omega)
  generalize hR : ofF n e = R
  unfold ofF at hR
  replace hR := fun _ : Unit => hR.symm
  generalize normF (decide (n < 0)) (Lib.decDigits n.natAbs) e = N at *
  by_cases hn : n < 0
  · rw [i1 hn] at c1
    clear i1 i2
    generalize Lib.decDigits n.natAbs = D at *
    have hD : List.drop (Int.toNat 1) (List.take (((45 :: D).length : Nat) : Int).toNat (45 :: D)) = D := by
      rw [Int.toNat_natCast, List.take_length]
      rfl
    rw [← hD] at c2
    clear hD
    refine zax Tryz.func120 rfl Tryz.ntmps120 Tryz.results120 rfl rfl fun X hL hX => ?_
    repeat' (first |with_reducible (first |refine zah ?_|refine zaa ?_|refine zag ?_|refine zad ?_|refine zan ?_|refine zai ?_|refine zam ?_)|refine zab rfl rfl True.intro ?_|refine zap rfl rfl rfl ?_|refine zaj rfl rfl rfl rfl True.intro ?_|refine zau rfl ?_|((first |refine zac rfl ?_ ?_|refine zak rfl rfl ?_ ?_)<;>intro<;>try (first |(exfalso;omega)))|((first |refine zab rfl rfl ?_ ?_|refine zav rfl rfl ?_ ?_|refine zaH rfl ?_ ?_);focus (first |(simp only [List.length_cons];omega)|exact le_ rfl|((repeat' refine And.intro ?_ ?_)<;>omega)|((repeat' refine And.intro ?_ ?_)<;>first |rfl|exact Nat.le_refl _)))|refine zaq rfl ?_|refine zae (f := 56) rfl rfl Tryz.call56 rfl c1 ?_|refine zae (f := 126) rfl rfl Tryz.call126 rfl (c2 (by omega)) ?_|fail)
    all_goals
      rw [hR ()]
      first
        | rw [if_pos (by omega)]; done
        | (rw [if_pos (by omega)]; rfl)
        | rw [if_neg (by omega)]; done
        | (rw [if_neg (by omega)]; rfl)
  · rw [i2 hn] at c1
    clear i1 i2
    generalize Lib.decDigits n.natAbs = D at *
    refine zax Tryz.func120 rfl Tryz.ntmps120 Tryz.results120 rfl rfl fun X hL hX => ?_
    repeat' (first |with_reducible (first |refine zah ?_|refine zaa ?_|refine zag ?_|refine zad ?_|refine zan ?_|refine zai ?_|refine zam ?_)|refine zab rfl rfl True.intro ?_|refine zap rfl rfl rfl ?_|refine zaj rfl rfl rfl rfl True.intro ?_|refine zau rfl ?_|((first |refine zac rfl ?_ ?_|refine zak rfl rfl ?_ ?_)<;>intro<;>try (first |(exfalso;omega)))|((first |refine zab rfl rfl ?_ ?_|refine zav rfl rfl ?_ ?_|refine zaH rfl ?_ ?_);focus (first |exact le_ rfl|((repeat' refine And.intro ?_ ?_)<;>omega)|((repeat' refine And.intro ?_ ?_)<;>first |rfl|exact Nat.le_refl _)))|refine zaq rfl ?_|refine zae (f := 56) rfl rfl Tryz.call56 rfl c1 ?_|refine zae (f := 126) rfl rfl Tryz.call126 rfl (c2 (by omega)) ?_|fail)
    all_goals
      rw [hR ()]
      first
        | rw [if_pos (by omega)]; done
        | (rw [if_pos (by omega)]; rfl)
        | rw [if_neg (by omega)]; done
        | (rw [if_neg (by omega)]; rfl)

theorem zrk (m k : Nat) : (9007199254740992 : Int) / 2 ^ k < (m : Int) ↔ 9007199254740992 < m * 2 ^ k := by
  have h1 : (2 : Int) ^ k = ((2 ^ k : Nat) : Int) := by simp
  rw [h1]
  have h2 : (9007199254740992 : Int) / ((2 ^ k : Nat) : Int) = ((9007199254740992 / 2 ^ k : Nat) : Int) := by simp
  rw [h2]
  have := Nat.div_lt_iff_lt_mul (x := 9007199254740992) (y := m) (Nat.two_pow_pos k)
  omega
theorem zpZ {m k : Nat} (hm : 0 < m) (hk : 53 < k) : 9007199254740992 < m * 2 ^ k := by
  have h1 : 2 ^ 54 ≤ 2 ^ k := Nat.pow_le_pow_right (by decide) hk
  have h2 : 1 * 2 ^ k ≤ m * 2 ^ k := Nat.mul_le_mul_right _ hm
  omega
theorem zgH (e : Int) : whF (0, e) = some 0 := rfl
theorem ziH {m : Nat} {e : Int} (h : m ≠ 0) (he : e < 0) : whF (m, e) = none := by
  unfold whF
  rw [if_neg h, if_pos he]
theorem zgo {m : Nat} {e : Int} (h : m ≠ 0) (he : ¬ e < 0) (hb : 9007199254740992 < m * 2 ^ e.toNat) : whF (m, e) = none := by
  unfold whF
  rw [if_neg h, if_neg he, if_pos hb]
theorem zlN {m : Nat} {e : Int} (h : m ≠ 0) (he : ¬ e < 0) (hb : ¬ 9007199254740992 < m * 2 ^ e.toNat) : whF (m, e) = some (m * 2 ^ e.toNat) := by
  unfold whF
  rw [if_neg h, if_neg he, if_neg hb]
theorem zfS {b : Nat} (h : xP b = 2047) : wholeF b = none := by unfold wholeF; rw [if_pos h]
theorem zgc {b : Nat} (h : ¬ xP b = 2047) : wholeF b = (whF (hv (mB (b % 9223372036854775808)) (eB (b % 9223372036854775808)))).map fun n => if 9223372036854775808 ≤ b then -(n : Int) else n := by
  unfold wholeF
  rw [if_neg h]
  split
  · rename_i h2
    rw [h2]
    rfl
  · rename_i n h2
    rw [h2]
    rfl
theorem zkN : wText (some 0) = ([48], true) := by
  show (textF (ofF 0 0).1 (ofF 0 0).2.1 (ofF 0 0).2.2, true) = _
  rw [zpd]
  rfl
set_option maxHeartbeats 2000000 in
theorem zic (b : Nat) (hb : b < 18446744073709551616) : Ctr Tryz.prog 74 [.i .u64 b] (.tu [.s (wText (wholeF b)).1, .b (wText (wholeF b)).2]) := by
  have c1 := zfe b hb
  by_cases hx : xP b = 2047
  · have e1 : partsD b = .tu [.b false, .i .u64 0, .i .i64 0, .b false] := if_pos hx
    rw [e1] at c1
    rw [zfS hx]
    show Ctr _ _ _ (.tu [.s [], .b false])
    clear e1 hx
    refine zax Tryz.func74 rfl Tryz.ntmps74 Tryz.results74 rfl rfl fun X hL hX => ?_
    repeat' (first |with_reducible (first |refine zah ?_|refine zaa ?_|refine zag ?_|refine zad ?_|refine zan ?_|refine zam ?_)|refine zab rfl rfl True.intro ?_|refine zau rfl ?_|refine zaq rfl ?_|refine zae (f := 118) rfl rfl Tryz.call118 rfl c1 ?_|fail)
    all_goals rfl
  · have e1 : partsD b = .tu [.b (decide (9223372036854775808 ≤ b)), .i .u64 (mB (b % 9223372036854775808)), .i .i64 (eB (b % 9223372036854775808)), .b true] := if_neg hx
    rw [e1] at c1
    rw [zgc hx]
    generalize hR : wText ((whF (hv (mB (b % 9223372036854775808)) (eB (b % 9223372036854775808)))).map fun n => if 9223372036854775808 ≤ b then -(n : Int) else n) = R
    have hx2 : xB (b % 9223372036854775808) < 2047 := by
      rw [zgB]
      unfold xP at hx ⊢
      omega
    have hm := zld (b % 9223372036854775808)
    have he1 := zpN (b % 9223372036854775808)
    have he2 := zkX (b % 9223372036854775808) (by omega)
    have hg : (decide (9223372036854775808 ≤ b)) = true ↔ 9223372036854775808 ≤ b := decide_eq_true_iff
    generalize hneg : decide (9223372036854775808 ≤ b) = neg at *
    have cof : ∀ k : Int, -9007199254740992 ≤ k ∧ k ≤ 9007199254740992 → Ctr Tryz.prog 120 [.i .i64 k, .i .i64 0] (dcV (ofF k 0)) := fun k hk => zrl k 0 (by omega) (by omega)
    have ctx : ∀ k : Int, -9007199254740992 ≤ k ∧ k ≤ 9007199254740992 → Ctr Tryz.prog 119 [dcV (ofF k 0)] (.s (textF (ofF k 0).1 (ofF k 0).2.1 (ofF k 0).2.2)) := fun k hk => zpi _ _ _ (by have := znx k 0 (by omega) (by omega); omega)
    generalize hM : mB (b % 9223372036854775808) = m0 at *
    generalize hE : eB (b % 9223372036854775808) = e0 at *
    refine zax Tryz.func74 rfl Tryz.ntmps74 Tryz.results74 rfl rfl fun X hL hX => ?_
    clear e1 hx hx2 hM hE hneg
    repeat' (first |with_reducible (first |refine zah ?_|refine zaa ?_|refine zag ?_|refine zad ?_|refine zai ?_|refine zaf ?_)|refine zab rfl rfl True.intro ?_|refine zal rfl ?_|refine zae (f := 118) rfl rfl Tryz.call118 rfl c1 ?_|fail)
    refine T.loop hL (fun y : Nat × Int => [(4, .b neg), (5, .i .u64 (y.1 : Nat)), (6, .i .i64 y.2)]) (fun _ => []) (fun y => hv y.1 y.2 = hv m0 e0 ∧ y.1 < 9007199254740992 ∧ -1074 ≤ y.2 ∧ y.2 ≤ 1000) (fun y => y.1) (m0, e0)
      ⟨rfl, hm, he1, by dsimp only; omega⟩ ⟨⟨rfl, rfl, rfl, trivial⟩, trivial, rfl, by rw [hX]; intro k hk; cases hk⟩ ?_
    rintro ⟨m, e⟩ ⟨g1, g2, g3, g4⟩
    dsimp only at g1 g2 g3 g4 ⊢
    by_cases hc : e < 0 ∧ m % 2 = 0 ∧ 0 < m
    · have hst := zhm hc
      rw [g1] at hst
      clear g1 cof ctx c1 hR
      repeat' (first |with_reducible (first |refine zah ?_|refine zaa ?_|refine zag ?_|refine zad ?_|refine zai ?_|refine zaf ?_|refine zao ?_)|refine zab rfl rfl True.intro ?_|refine zaj rfl rfl rfl rfl True.intro ?_|((first |refine zac rfl ?_ ?_|refine zak rfl rfl ?_ ?_)<;>intro<;>try (first |(exfalso;omega)))|((first |refine zab rfl rfl ?_ ?_|refine zaj rfl rfl rfl rfl ?_ ?_);focus (first |omega|((repeat first |rw [zar]);(repeat' refine And.intro ?_ ?_)<;>omega)))|fail)
      exact ⟨(m / 2, e + 1), ⟨hst.symm, by dsimp only; omega, by dsimp only; omega, by dsimp only; omega⟩, by dsimp only; omega, ⟨rfl, congrArg (D.i .u64) (by dsimp only; omega), rfl, trivial⟩, trivial, rfl, by rw [hX]; intro k hk; cases hk⟩
    · rw [zci hc] at g1
      rw [← g1] at hR
      clear g1 c1
      by_cases h0 : m = 0
      · subst h0
        have hz : (whF (0, e)).map (fun n => if 9223372036854775808 ≤ b then -(n : Int) else n) = some 0 := by
          rw [zgH]
          show some (if 9223372036854775808 ≤ b then -((0 : Nat) : Int) else ((0 : Nat) : Int)) = _
          split <;> rfl
        rw [hz, zkN] at hR
        subst hR
        clear hz cof ctx hg
        repeat' (first |with_reducible (first |refine zah ?_|refine zaa ?_|refine zag ?_|refine zad ?_|refine zan ?_|refine zat ?_|refine zaf ?_|refine zas ?_|refine zam ?_|refine zaz ?_)|refine zab rfl rfl True.intro ?_|refine zap rfl rfl rfl ?_|refine zaj rfl rfl rfl rfl True.intro ?_|refine zau rfl ?_|refine zal rfl ?_|((first |refine zak rfl rfl ?_ ?_)<;>intro)|((first |refine zaj rfl rfl rfl rfl ?_ ?_);focus (first |omega|((repeat' refine And.intro ?_ ?_)<;>omega)))|refine zaB rfl ?_|refine zaq rfl ?_|fail)
        all_goals rfl
      · by_cases h1 : e < 0
        · rw [ziH h0 h1] at hR
          subst hR
          clear cof ctx hg
          repeat' (first |with_reducible (first |refine zah ?_|refine zaa ?_|refine zag ?_|refine zad ?_|refine zan ?_|refine zat ?_|refine zaf ?_|refine zas ?_|refine zam ?_|refine zaz ?_)|refine zab rfl rfl True.intro ?_|refine zap rfl rfl rfl ?_|refine zaj rfl rfl rfl rfl True.intro ?_|refine zau rfl ?_|refine zal rfl ?_|((first |refine zac rfl ?_ ?_|refine zak rfl rfl ?_ ?_)<;>intro<;>try (first |(exfalso;omega)))|((first |refine zaj rfl rfl rfl rfl ?_ ?_);focus (first |omega|((repeat' refine And.intro ?_ ?_)<;>omega)))|refine zaB rfl ?_|refine zaq rfl ?_|fail)
          all_goals rfl
        · have hs := zrk m e.toNat
          by_cases h2 : 53 < e
          · rw [zgo h0 h1 (zpZ (by omega) (by omega))] at hR
            subst hR
            clear cof ctx hg hs
            repeat' (first |with_reducible (first |refine zah ?_|refine zaa ?_|refine zag ?_|refine zad ?_|refine zan ?_|refine zat ?_|refine zaf ?_|refine zas ?_|refine zam ?_|refine zaz ?_)|refine zab rfl rfl True.intro ?_|refine zap rfl rfl rfl ?_|refine zaj rfl rfl rfl rfl True.intro ?_|refine zau rfl ?_|refine zal rfl ?_|((first |refine zac rfl ?_ ?_|refine zak rfl rfl ?_ ?_)<;>intro<;>try (first |(exfalso;omega)))|refine zaB rfl ?_|refine zaq rfl ?_|fail)
            all_goals rfl
          · by_cases h3 : 9007199254740992 < m * 2 ^ e.toNat
            · rw [zgo h0 h1 h3] at hR
              replace hs := hs.2 h3
              subst hR
              clear cof ctx hg h3
              repeat' (first |with_reducible (first |refine zah ?_|refine zaa ?_|refine zag ?_|refine zad ?_|refine zan ?_|refine zat ?_|refine zaf ?_|refine zas ?_|refine zam ?_|refine zaz ?_)|refine zab rfl rfl True.intro ?_|refine zap rfl rfl rfl ?_|refine zaj rfl rfl rfl rfl True.intro ?_|refine zal rfl ?_|((first |refine zac rfl ?_ ?_|refine zak rfl rfl ?_ ?_)<;>intro<;>try (first |(exfalso;omega)))|((first |refine zaj rfl rfl rfl rfl ?_ ?_);focus (first |omega|((repeat' refine And.intro ?_ ?_)<;>omega)))|refine zaB rfl ?_|refine zaq rfl ?_|fail)
              all_goals rfl
            · rw [zlN h0 h1 h3] at hR
              replace hs : ¬ (9007199254740992 : Int) / 2 ^ e.toNat < (m : Int) := fun h => h3 (hs.1 h)
              have hN : IntKind.i64.wrap (m : Int) * 2 ^ e.toNat = ((m * 2 ^ e.toNat : Nat) : Int) := by
                rw [show IntKind.i64.wrap (m : Int) = m by rw [wi6_]; omega]
                simp
              have hN2 : -9007199254740992 ≤ IntKind.i64.wrap (m : Int) * 2 ^ e.toNat ∧ IntKind.i64.wrap (m : Int) * 2 ^ e.toNat ≤ 9007199254740992 := by
                rw [hN]
                omega
              have hR : wText (some (if 9223372036854775808 ≤ b then -((m * 2 ^ e.toNat : Nat) : Int) else ((m * 2 ^ e.toNat : Nat) : Int))) = R := hR
              rw [← hN] at hR
              have hR1 : neg = true → wText (some (-(IntKind.i64.wrap (m : Int) * 2 ^ e.toNat))) = R := fun h => by rw [← hR, if_pos (hg.1 h)]
              have hR2 : ¬ neg = true → wText (some (IntKind.i64.wrap (m : Int) * 2 ^ e.toNat)) = R := fun h => by rw [← hR, if_neg (fun h2 => h (hg.2 h2))]
              clear hR hg
              clear hN h3
              repeat' (first |with_reducible (first |refine zah ?_|refine zaa ?_|refine zag ?_|refine zad ?_|refine zan ?_|refine zai ?_|refine zat ?_|refine zaf ?_|refine zao ?_|refine zas ?_)|refine zab rfl rfl True.intro ?_|refine zap rfl rfl rfl ?_|refine zaj rfl rfl rfl rfl True.intro ?_|refine zal rfl ?_|((first |refine zac rfl ?_ ?_|refine zep rfl ?_ ?_|refine zak rfl rfl ?_ ?_)<;>intro<;>try (first |(exfalso;omega)))|((first |refine zab rfl rfl ?_ ?_|refine zaj rfl rfl rfl rfl ?_ ?_);focus (first |omega|((repeat' refine And.intro ?_ ?_)<;>omega)))|refine zaB rfl ?_|refine zaq rfl ?_|refine zae (f := 120) rfl rfl Tryz.call120 rfl (cof _ (by omega)) ?_|refine zae (f := 119) rfl rfl Tryz.call119 rfl (ctx _ (by omega)) ?_|fail)
              · rw [← hR1 ‹_›]
                rfl
              · rw [← hR2 (Bool.eq_false_iff.1 ‹_›)]
                rfl

theorem zoY (m : Int) : (if m.tmod 10 < 0 then -(m.tmod 10) else m.tmod 10) = ((m.natAbs % 10 : Nat) : Int) := by
  by_cases h : 0 ≤ m
  · obtain ⟨k, rfl⟩ := Int.eq_ofNat_of_zero_le h
    rw [Int.tmod_eq_emod_of_nonneg h]
    simp only [Int.natAbs_natCast]
    rw [if_neg (by omega)]
    omega
  · obtain ⟨k, hk⟩ := Int.eq_ofNat_of_zero_le (show 0 ≤ -m by omega)
    obtain rfl : m = -(k : Int) := by omega
    rw [Int.neg_tmod, Int.tmod_eq_emod_of_nonneg (by omega)]
    simp only [Int.natAbs_neg, Int.natAbs_natCast]
    split <;> omega
theorem zoz (m : Int) : (m.tdiv 10).natAbs = m.natAbs / 10 := by
  have h1 : (m.tdiv 10).natAbs = m.natAbs / (10 : Int).natAbs := Int.natAbs_tdiv m 10
  exact h1
theorem zqY (n e : Int) (h0 : -9223372036854775808 ≤ n) (h1 : n ≤ 9223372036854775807) : Ctr Tryz.prog 93 [.i .i64 n, .i .i64 e] (dcV (ofF n e)) := by
  have hlD : (dig0 n.natAbs).length ≤ 19 := by
    unfold dig0
    split
    · simp
    · exact zfv _ 19 (by omega) (by omega)
  have c2 := fun h : -2000 ≤ e ∧ e ≤ 2000 => zim (decide (n < 0)) (dig0 n.natAbs) e (by omega) (by omega) (by omega)
  rw [zmq] at c2
  generalize hR : ofF n e = R
  unfold ofF at hR
  replace hR := fun _ : Unit => hR.symm
  generalize normF (decide (n < 0)) (Lib.decDigits n.natAbs) e = N at *
  refine zax Tryz.func93 rfl Tryz.ntmps93 Tryz.results93 rfl rfl fun X hL hX => ?_
  repeat' (first |with_reducible (first |refine zah ?_|refine zaa ?_|refine zag ?_|refine zad ?_|refine zaf ?_)|refine zab rfl rfl True.intro ?_|((first |refine zav rfl rfl ?_ ?_);focus (first |((repeat' refine And.intro ?_ ?_)<;>omega)|((repeat' refine And.intro ?_ ?_)<;>first |rfl)))|fail)
  refine T.loop hL (fun y : Int × List UInt8 => [(0, .i .i64 n), (1, .i .i64 e), (4, .pv 4 0), (5, .s y.2), (6, .i .i64 y.1)]) (fun _ => [(4, .var [.b false, .s [], .i .i64 0])]) (fun y => dig0 n.natAbs = dig0 y.1.natAbs ++ y.2 ∧ InI y.1) (fun y => y.1.natAbs) (n, [])
    ⟨by simp, h0, h1⟩ ⟨⟨rfl, rfl, rfl, rfl, rfl, trivial⟩, ⟨rfl, trivial⟩, rfl, by rw [hX]; intro k hk; cases hk⟩ ?_
  rintro ⟨m, s⟩ ⟨g1, g2⟩
  dsimp only at g1 g2 ⊢
  by_cases hz : m = 0
  · subst hz
    have g1 : dig0 n.natAbs = s := g1
    have g1 := fun _ : Unit => g1
    rw [g1 ()] at c2
    clear g2
    repeat' (first |with_reducible (first |refine zah ?_|refine zaa ?_|refine zag ?_|refine zad ?_|refine zan ?_|refine zai ?_|refine zat ?_|refine zas ?_|refine zam ?_)|refine zab rfl rfl True.intro ?_|refine zap rfl rfl rfl ?_|refine zaj rfl rfl rfl rfl True.intro ?_|refine zau rfl ?_|refine zal rfl ?_|((first |refine zac rfl ?_ ?_|refine zak rfl rfl ?_ ?_)<;>intro)|((first |refine zab rfl rfl ?_ ?_|refine zav rfl rfl ?_ ?_|refine zaH rfl ?_ ?_);focus (first |exact le_ rfl|((repeat' refine And.intro ?_ ?_)<;>omega)|((repeat' refine And.intro ?_ ?_)<;>first |rfl|exact Nat.le_refl _)))|refine zaB rfl ?_|refine zaq rfl ?_|refine zae (f := 134) rfl rfl Tryz.call134 rfl (c2 (by omega)) ?_|fail)
    all_goals
      rw [hR ()]
      first
        | rw [if_pos (by omega)]; done
        | (rw [if_pos (by omega)]; rfl)
        | rw [if_neg (by omega)]; done
        | (rw [if_neg (by omega)]; rfl)
  · have hma := zoY m
    have hda := zoz m
    have hst := znV (k := m.natAbs) (by omega)
    rw [hst, List.append_assoc] at g1
    have hdl : [UInt8.ofNat (48 + m.natAbs % 10)].length = 1 := rfl
    have hcut := zhW (m.natAbs % 10) (by omega)
    have hls : s.length ≤ 19 := by
      have := congrArg List.length g1
      simp only [List.length_append] at this
      omega
    have fin : ∀ c : Int, c = ((m.natAbs % 10 : Nat) : Int) → ∀ (fr : Fr) (ow : Ow), leFr fr [(0, .i .i64 n), (1, .i .i64 e), (4, .pv 4 0), (5, .s ((dig10.take (c + 1).toNat).drop c.toNat ++ s)), (6, .i .i64 (m.tdiv 10))] → leOw ow [(4, .var [.b false, .s [], .i .i64 0])] →
        ∃ y : Int × List UInt8, (dig0 n.natAbs = dig0 y.1.natAbs ++ y.2 ∧ InI y.1) ∧ y.1.natAbs < m.natAbs ∧
          Le X fr ow [(0, .i .i64 n), (1, .i .i64 e), (4, .pv 4 0), (5, .s y.2), (6, .i .i64 y.1)] [(4, .var [.b false, .s [], .i .i64 0])] := by
      intro c hc fr ow h1 h2
      subst hc
      rw [show (((m.natAbs % 10 : Nat) : Int) + 1).toNat = m.natAbs % 10 + 1 by omega, Int.toNat_natCast, hcut] at h1
      exact ⟨(m.tdiv 10, [UInt8.ofNat (48 + m.natAbs % 10)] ++ s), ⟨by dsimp only; rw [hda]; exact g1, zmM (by omega) g2⟩, by dsimp only; omega, h1, h2, rfl, by rw [hX]; intro k hk; cases hk⟩
    clear g1 hst hcut hR c2
    have l10 : dig10.length = 10 := rfl
    repeat' (first |with_reducible (first |refine zah ?_|refine zaa ?_|refine zag ?_|refine zad ?_|refine zai ?_|refine zaf ?_|refine zao ?_)|refine zab rfl rfl True.intro ?_|((first |refine zac rfl ?_ ?_|refine zaR rfl ?_ ?_)<;>intro<;>try (first |(exfalso;omega)))|((first |refine zab rfl rfl ?_ ?_);focus (first |(simp only [List.length_drop, List.length_take];omega)|omega|((repeat first |rw [wi6_]);(repeat' refine And.intro ?_ ?_)<;>omega)|((repeat' refine And.intro ?_ ?_)<;>first |omega)|(simp_all;omega)))|refine zrB rfl rfl rfl (by omega) ?_|refine zri rfl rfl rfl (by omega) (by omega) ?_|fail)
    · refine fin (-m.tmod 10) (by rw [if_pos (by omega)] at hma; omega) _ _ ?_ ?_
      · exact ⟨rfl, rfl, rfl, rfl, rfl, trivial⟩
      · exact ⟨rfl, trivial⟩
    · refine fin (m.tmod 10) (by rw [if_neg (by omega)] at hma; omega) _ _ ?_ ?_
      · exact ⟨rfl, rfl, rfl, rfl, rfl, trivial⟩
      · exact ⟨rfl, trivial⟩
end Go.Proofs.YtkkaamhocpmhkaaGreatDoor.Flow
