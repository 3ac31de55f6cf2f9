/- The texts K37, K12, K21, K22, K23, one behind the other. -/
import Derived.Test.YtkkaamhocpmhkaaGreatDoorSA8
import Derived.Test.YtkkaamhocpmhkaaGreatDoorSA9
import Derived.Test.YtkkaamhocpmhkaaGreatDoorSA19
import Derived.Test.YtkkaamhocpmhkaaGreatDoorSA20
namespace Go.Proofs.YtkkaamhocpmhkaaGreatDoor.Flow
open Go Go.RowKit
section
variable {H : Type}
def kidQ (d : DataW H) (i : Nat) : DataW H := (kids d).getD i .nil
theorem bkQ (d : DataW H) (i : Nat) : Rows.uptoBulk (kidQ d i) ≤ Rows.uptoBulk d := by
  unfold kidQ
  by_cases h : i < (kids d).length
  · rw [List.getD_eq_getElem?_getD, List.getElem?_eq_getElem h, Option.getD_some]
    have := zgR (List.getElem_mem h)
    have := zdJ d
    omega
  · rw [List.getD_eq_getElem?_getD, List.getElem?_eq_none (by omega), Option.getD_none]
    exact zhm d
theorem bklQ (d : DataW H) : (kids d).length ≤ Rows.uptoBulk d := by
  have := zeE (kids d)
  have := zdJ d
  omega
theorem kdropQ (l : List (DataW H)) (n i : Nat) : (l.drop n).getD i .nil = l.getD (n + i) .nil := by
  simp [List.getD_eq_getElem?_getD]
def numQ (d : DataW H) : Int := max (-9223372036854775808) (min 9223372036854775807 (intOf d))
theorem zlM (d : DataW H) : -9223372036854775808 ≤ numQ d ∧ numQ d < 9223372036854775808 := by
  unfold numQ
  constructor <;> omega
def gSQ (d : DataW H) : List D := [.s (strOf d)]
def gBQ (d : DataW H) : List D := [.b (boolOf d)]
def gIQ (d : DataW H) : List D := [.i .i64 (numQ d)]
def gOQ (d : DataW H) : List D := [.i .u8 ((oct d).toNat : Int)]
def gSlQ (z : Nat) (G : DataW H → List D) (d : DataW H) : List D := [.sl z (kids d).length (fun i => G ((kids d).getD i .nil))]
def gPQ (d : DataW H) : List D := catG (List.replicate 2 gSQ) (kids d)
def pairQ (d : DataW H) : List UInt8 × List UInt8 := (strOf (kidQ d 0), strOf (kidQ d 1))
def gReqQ (d : DataW H) : List D := catG [gSQ, gSQ, gBQ, gBQ, gSlQ 1 gSQ] (kids d)
def gRspQ (d : DataW H) : List D := catG [gIQ, gSlQ 2 gPQ, gSlQ 1 gOQ] (kids d)
def reqOf (d : DataW H) : ReqR := ⟨strOf (kidQ d 0), strOf (kidQ d 1), boolOf (kidQ d 2), boolOf (kidQ d 3), (kids (kidQ d 4)).map strOf⟩
def rspOf (d : DataW H) : RspR := ⟨numQ (kidQ d 0), (kids (kidQ d 1)).map pairQ, octs (kidQ d 2)⟩
theorem zlP (d : DataW H) : gSlQ 1 gSQ d = [.sl 1 ((kids d).map strOf).length (txK ((kids d).map strOf))] := by
  have h2 : (fun i => gSQ ((kids d).getD i .nil)) = txK ((kids d).map strOf) := by
    funext i
    have e0 : strOf (DataW.nil : DataW H) = [] := rfl
    have e : ((kids d).map strOf).getD i [] = strOf ((kids d).getD i .nil) := by rw [← e0]; exact zdd strOf (kids d) .nil i
    unfold txK
    rw [e]
    rfl
  show [D.sl 1 (kids d).length (fun i => gSQ ((kids d).getD i .nil))] = _
  rw [h2, List.length_map]
theorem zme (d : DataW H) : gSlQ 2 gPQ d = [.sl 2 ((kids d).map pairQ).length (hdF ((kids d).map pairQ))] := by
  have h2 : (fun i => gPQ ((kids d).getD i .nil)) = hdF ((kids d).map pairQ) := by
    funext i
    have e0 : pairQ (DataW.nil : DataW H) = ([], []) := rfl
    have e : ((kids d).map pairQ).getD i ([], []) = pairQ ((kids d).getD i .nil) := by rw [← e0]; exact zdd pairQ (kids d) .nil i
    unfold hdF
    rw [e]
    show gSQ ((kids ((kids d).getD i .nil)).getD 0 .nil) ++ (gSQ (((kids ((kids d).getD i .nil)).drop 1).getD 0 .nil) ++ []) = _
    rw [kdropQ]
    rfl
  show [D.sl 2 (kids d).length (fun i => gPQ ((kids d).getD i .nil))] = _
  rw [h2, List.length_map]
theorem zmm (d : DataW H) : gSlQ 1 gOQ d = [.sl 1 (octs d).length (bytesF (octs d))] := congrArg (fun x => [x]) (zfH (kids d))
theorem zkM (d : DataW H) : gReqQ d = reqP (reqOf d) := by
  show gSQ ((kids d).getD 0 .nil) ++ (gSQ (((kids d).drop 1).getD 0 .nil) ++ (gBQ ((((kids d).drop 1).drop 1).getD 0 .nil) ++ (gBQ (((((kids d).drop 1).drop 1).drop 1).getD 0 .nil) ++ (gSlQ 1 gSQ ((((((kids d).drop 1).drop 1).drop 1).drop 1).getD 0 .nil) ++ [])))) = _
  simp only [List.drop_drop, kdropQ, zlP]
  rfl
theorem zko (d : DataW H) : gRspQ d = rspP (rspOf d) := by
  show gIQ ((kids d).getD 0 .nil) ++ (gSlQ 2 gPQ (((kids d).drop 1).getD 0 .nil) ++ (gSlQ 1 gOQ ((((kids d).drop 1).drop 1).getD 0 .nil) ++ [])) = _
  simp only [List.drop_drop, kdropQ, zme, zmm]
  rfl
variable {enc : TypeId × Value → H} {W : World}
theorem zhC {t : TypeId} (ht : Tryz.prog.underlying t = some (.int .i64)) : Tells enc W t 1 (gIQ (H := H)) := fun fuel cs x h => by
  obtain ⟨n, rfl, rfl, hw⟩ := DataW.trod_int ht h
  refine ⟨rfl, rfl, rfl, fun j hj => ?_⟩
  obtain rfl : j = 0 := by omega
  have e1 : IntKind.i64.min ≤ n ∧ n ≤ IntKind.i64.max := by simpa [Lit.wf] using hw
  have e2 : IntKind.i64.min = -9223372036854775808 := by decide
  have e3 : IntKind.i64.max = 9223372036854775807 := by decide
  have e : numQ (H := H) (.lit (.int .i64 n)) = n := by
    show max (-9223372036854775808) (min 9223372036854775807 n) = n
    omega
  unfold gIQ
  rw [e]
  exact .i _ .i64 n
theorem zgh : Tells enc W 54 2 (gPQ (H := H)) := zgq Tryz.underlying54 (by kernel_rfl) (by kernel_rfl) rfl (zbN Tryz.underlying9)
theorem zhY : Tells enc W 57 5 (gReqQ (H := H)) :=
  zcX Tryz.underlying57 rfl (by kernel_rfl) (.cons _ _ 0 1 5 _ _ rfl (by kernel_rfl) (zbN Tryz.underlying9) (.cons _ _ 1 1 5 _ _ rfl (by kernel_rfl) (zbN Tryz.underlying9)
    (.cons _ _ 2 1 5 _ _ rfl (by kernel_rfl) (zen Tryz.underlying4) (.cons _ _ 3 1 5 _ _ rfl (by kernel_rfl) (zen Tryz.underlying4) (.cons _ _ 4 1 5 _ _ rfl (by kernel_rfl) (zbA Tryz.underlying22 (by kernel_rfl) (by omega) (zbN Tryz.underlying9)) (.nil 5))))))
theorem zie : Tells enc W 60 3 (gRspQ (H := H)) :=
  zcX Tryz.underlying60 rfl (by kernel_rfl) (.cons _ _ 0 1 3 _ _ rfl (by kernel_rfl) (zhC Tryz.underlying3) (.cons _ _ 1 1 3 _ _ rfl (by kernel_rfl) (zbA Tryz.underlying50 (by kernel_rfl) (by omega) zgh)
    (.cons _ _ 2 1 3 _ _ rfl (by kernel_rfl) (zbA Tryz.underlying58 (by kernel_rfl) (by omega) (zff Tryz.underlying5)) (.nil 3))))
set_option maxRecDepth 100000 in
theorem zkQ {base : Nat} {v : Value} {d : DataW H} {ps : List MemPlace} (hv : Value.okWide Tryz.prog W .any base 57 v) (h : DataW.Trod enc Tryz.prog W 0 (fun _ => true) true 57 v d ps) :
    Rel (allOf W) W noRho (.ag (reqP (reqOf d))) v := by
  have k := zei (enc := enc) Tryz.underlying57 zhY hv h
  rwa [zkM] at k
set_option maxRecDepth 100000 in
theorem zkZ {base : Nat} {v : Value} {d : DataW H} {ps : List MemPlace} (hv : Value.okWide Tryz.prog W .any base 60 v) (h : DataW.Trod enc Tryz.prog W 0 (fun _ => true) true 60 v d ps) :
    Rel (allOf W) W noRho (.ag (rspP (rspOf d))) v := by
  have k := zei (enc := enc) Tryz.underlying60 zie hv h
  rwa [zko] at k
theorem zlm {d : DataW H} (h : Rows.uptoBulk d ≤ 1048576) : (reqOf d).method.length ≤ 1048576 ∧ (reqOf d).tags.length ≤ 1048576 := by
  have h0 := bkQ d 0
  have h4 := bkQ d 4
  have h5 := bklQ (kidQ d 4)
  refine ⟨Nat.le_trans (zdh (kidQ d 0)) (by omega), ?_⟩
  show ((kids (kidQ d 4)).map strOf).length ≤ _
  rw [List.length_map]
  omega
theorem zkq {d : DataW H} (h : Rows.uptoBulk d ≤ 1048576) : (rspOf d).hs.length ≤ 1048576 ∧ (rspOf d).body.length ≤ 1048576 ∧ (-9223372036854775808 ≤ (rspOf d).st ∧ (rspOf d).st < 9223372036854775808)
    ∧ ∀ i, ((rspOf d).hs.getD i ([], [])).1.length ≤ 1048576 ∧ ((rspOf d).hs.getD i ([], [])).2.length ≤ 1048576 := by
  have h1 := bkQ d 1
  have h2 := bkQ d 2
  have h3 := bklQ (kidQ d 1)
  refine ⟨?_, zgW (by omega), zlM _, fun i => ?_⟩
  · show ((kids (kidQ d 1)).map pairQ).length ≤ _
    rw [List.length_map]
    omega
  · have e0 : pairQ (DataW.nil : DataW H) = ([], []) := rfl
    show (((kids (kidQ d 1)).map pairQ).getD i ([], [])).1.length ≤ _ ∧ (((kids (kidQ d 1)).map pairQ).getD i ([], [])).2.length ≤ _
    rw [show ((kids (kidQ d 1)).map pairQ).getD i ([], []) = pairQ (kidQ (kidQ d 1) i) by rw [← e0]; exact zdd pairQ _ .nil i]
    have a1 := bkQ (kidQ d 1) i
    have a2 := bkQ (kidQ (kidQ d 1) i) 0
    have a3 := bkQ (kidQ (kidQ d 1) i) 1
    have a4 := zdh (kidQ (kidQ (kidQ d 1) i) 0)
    have a5 := zdh (kidQ (kidQ (kidQ d 1) i) 1)
    exact ⟨by show (strOf _).length ≤ _; omega, by show (strOf _).length ≤ _; omega⟩
end
end Go.Proofs.YtkkaamhocpmhkaaGreatDoor.Flow

namespace Go.Proofs.YtkkaamhocpmhkaaGreatDoor.Flow
open Go
set_option maxRecDepth 100000 in
set_option maxHeartbeats 8000000 in
theorem zht (b : List UInt8) (at0 : Nat) (hb : b.length ≤ 1000000) (h3 : at0 ≤ b.length) : Ctr Tryz.prog 208 [.sl 1 b.length (bytesF b), .i .i64 ((at0 : Nat) : Int)] (.ag (mtD (findB b at0))) := by
  refine zaE Tryz.func208 rfl Tryz.ntmps208 Tryz.results208 rfl rfl fun X hL hX => ?_
  have hfin := (zcF b at0 (min 256 at0)).congr (T := fun d => 0 < d ∧ d ≤ 256 ∧ d ≤ at0) fun d => by omega
  unfold findB
  repeat' (first |with_reducible (first |refine zag ?_|refine zaa ?_|refine zaf ?_|refine zac ?_|refine zah ?_|refine zae ?_)|refine zab rfl rfl True.intro ?_|refine zam rfl rfl rfl rfl True.intro ?_|((first |refine zad rfl ?_ ?_)<;>intro<;>try (first |(exfalso;omega)))|((first |refine zaw rfl rfl ?_ ?_|refine zax rfl ?_ ?_);focus (first |((repeat' refine And.intro ?_ ?_)<;>omega)|((repeat' refine And.intro ?_ ?_)<;>first |rfl|exact Nat.le_refl _)))|fail)
  all_goals try (exfalso; omega)
  refine T.loop hL (fun x : Nat × Nat × Nat => [(0, .sl 1 b.length (bytesF b)), (1, .i .i64 ((at0 : Nat) : Int)), (4, .pv 4 0), (5, .pv 5 0), (6, .i .i64 x.1)]) (fun x => [(4, .var (mtD (0, 0))), (5, .var (mtD x.2))])
    (fun x => x.1 ≤ 256 ∧ BestOf (alk b at0) (fun d => x.1 < d ∧ d ≤ 256 ∧ d ≤ at0) x.2) (fun x => x.1) (256, 0, 0) ⟨Nat.le_refl _, .inl ⟨rfl, fun d hd => by dsimp only at hd; omega⟩⟩
    ⟨⟨rfl, rfl, rfl, rfl, rfl, trivial⟩, ⟨rfl, rfl, trivial⟩, rfl, by rw [hX]; simp⟩ ?_
  rintro ⟨k, p1, p2⟩ ⟨g1, g2⟩
  try dsimp only at g1 g2 ⊢
  by_cases hk : 1 ≤ k
  rotate_left
  · have hk' : ¬ (k : Int) ≥ 1 := by omega
    have : k = 0 := by omega
    subst this
    rw [hfin.uniq g2]
    clear hfin g2
    repeat' (first |with_reducible (first |refine zag ?_|refine zaa ?_|refine zaf ?_|refine zac ?_|refine zar ?_|refine zan ?_|refine zao ?_)|refine zab rfl rfl True.intro ?_|refine zak rfl ?_|((first |refine zab rfl rfl ?_ ?_|refine zax rfl ?_ ?_);focus (first |exact le_ rfl|((repeat' refine And.intro ?_ ?_)<;>omega)|((repeat' refine And.intro ?_ ?_)<;>first |rfl|exact Nat.le_refl _)))|refine zat rfl ?_|refine zau rfl ?_|fail)
    all_goals first
      | rfl
      | (exfalso; omega)
      | trace_state
  have hk' : (k : Int) ≥ 1 := by omega
  have hdec : (k : Int) - 1 = ((k - 1 : Nat) : Int) := by omega
  by_cases ha : at0 < k
  · have ha' : (k : Int) > (at0 : Int) := by omega
    have g3 := g2.congr (T := fun d => k - 1 < d ∧ d ≤ 256 ∧ d ≤ at0) fun d => by omega
    clear hfin g2
    repeat' (first |with_reducible (first |refine zag ?_|refine zaa ?_|refine zaf ?_|refine zac ?_|refine zah ?_|refine zan ?_|refine zae ?_|refine zao ?_)|refine zab rfl rfl True.intro ?_|((first |refine zad rfl ?_ ?_)<;>intro<;>try (first |(exfalso;omega)))|((first |refine zab rfl rfl ?_ ?_);focus (first |omega|((repeat' refine And.intro ?_ ?_)<;>omega)))|refine zat rfl ?_|fail)
    all_goals first
      | exact ⟨(k - 1, p1, p2), ⟨by dsimp only; omega, g3⟩, by dsimp only; omega, ⟨rfl, rfl, rfl, rfl, congrArg (D.i .i64) hdec, trivial⟩, ⟨rfl, rfl, trivial⟩, rfl, by rw [hX]; simp⟩
      | (exfalso; omega)
      | trace_state
  have ha' : ¬ (k : Int) > (at0 : Int) := by omega
  have g3 := (g2.down (k := k) fun d hd => hd.1).congr (T := fun d => k - 1 < d ∧ d ≤ 256 ∧ d ≤ at0) fun d => by omega
  clear hfin g2
  repeat' (first |with_reducible (first |refine zag ?_|refine zaa ?_|refine zaf ?_|refine zac ?_|refine zah ?_|refine zae ?_)|refine zab rfl rfl True.intro ?_|((first |refine zad rfl ?_ ?_)<;>intro<;>try (first |(exfalso;omega)))|fail)
  all_goals try (exfalso; omega)
  refine T.loop hL (fun n : Nat => [(0, .sl 1 b.length (bytesF b)), (1, .i .i64 ((at0 : Nat) : Int)), (4, .pv 4 0), (5, .pv 5 0), (6, .i .i64 ((k : Nat) : Int)), (7, .i .i64 n)]) (fun _ => [(4, .var (mtD (0, 0))), (5, .var (mtD (p1, p2)))])
    (fun n => n ≤ 258 ∧ at0 + n ≤ b.length ∧ alk b at0 k = alkN b at0 k n) (fun n => 258 - n) 0 ⟨Nat.zero_le _, h3, rfl⟩
    ⟨⟨rfl, rfl, rfl, rfl, rfl, rfl, trivial⟩, ⟨rfl, rfl, trivial⟩, rfl, by rw [hX]; simp⟩ ?_
  rintro n ⟨f1, f2, f3⟩
  try dsimp only at f1 f2 f3 ⊢
  have e1 : ((at0 : Int) + (n : Int)).toNat = at0 + n := by omega
  have e2 : ((at0 : Int) - (k : Int) + (n : Int)).toNat = at0 + n - k := by omega
  by_cases q : n < 258 ∧ at0 + n < b.length ∧ b.getD (at0 + n) 0 = b.getD (at0 + n - k) 0
  · rw [zeY q] at f3
    have q1 : (n : Int) < 258 := by omega
    have q2 : (at0 : Int) + (n : Int) < (b.length : Int) := by omega
    have q3 : (((b.getD ((at0 : Int) + (n : Int)).toNat 0).toNat : Nat) : Int) = (((b.getD ((at0 : Int) - (k : Int) + (n : Int)).toNat 0).toNat : Nat) : Int) := by rw [e1, e2, q.2.2]
    clear g3
    repeat' (first |with_reducible (first |refine zag ?_|refine zaa ?_|refine zaf ?_|refine zac ?_|refine zah ?_|refine zae ?_|refine zai ?_|refine zaH ?_)|refine zab rfl rfl True.intro ?_|refine zam rfl rfl rfl rfl True.intro ?_|((first |refine zad rfl ?_ ?_|refine zal rfl rfl ?_ ?_)<;>intro<;>try (first |(exfalso;omega)))|((first |refine zab rfl rfl ?_ ?_|refine zam rfl rfl rfl rfl ?_ ?_);focus (first |omega|exact le_ rfl|((repeat' refine And.intro ?_ ?_)<;>omega)))|with_reducible refine ⟨by kernel_rfl, ?_⟩|fail)
    all_goals first
      | exact ⟨n + 1, ⟨by omega, by omega, f3⟩, by omega, ⟨rfl, rfl, rfl, rfl, rfl, rfl, trivial⟩, ⟨rfl, rfl, trivial⟩, rfl, by rw [hX]; simp⟩
      | (exfalso; omega)
      | trace_state
  · rw [zhn q] at f3
    rw [f3] at g3
    have hcase : (¬ n < 258) ∨ (n < 258 ∧ ¬ at0 + n < b.length) ∨ (n < 258 ∧ at0 + n < b.length ∧ ¬ (((b.getD ((at0 : Int) + (n : Int)).toNat 0).toNat : Nat) : Int) = (((b.getD ((at0 : Int) - (k : Int) + (n : Int)).toNat 0).toNat : Nat) : Int)) := by
      by_cases q1 : n < 258
      · by_cases q2 : at0 + n < b.length
        · refine .inr (.inr ⟨q1, q2, ?_⟩)
          rw [e1, e2]
          intro h
          have h4 : (b.getD (at0 + n) 0).toNat = (b.getD (at0 + n - k) 0).toNat := by omega
          exact q ⟨q1, q2, UInt8.toNat_inj.1 h4⟩
        · exact .inr (.inl ⟨q1, q2⟩)
      · exact .inl q1
    clear q f3
    by_cases r : 3 ≤ n ∧ p1 ≤ n
    · rw [if_pos r] at g3
      have r1 : (n : Int) ≥ 3 := by omega
      have r2 : (n : Int) ≥ (p1 : Int) := by omega
      rcases hcase with q | ⟨q, q2⟩ | ⟨q, q2, q3⟩
      repeat' (first |with_reducible (first |refine zag ?_|refine zaa ?_|refine zaf ?_|refine zac ?_|refine zan ?_|refine zai ?_|refine zao ?_|refine zaH ?_)|refine zab rfl rfl True.intro ?_|refine zay rfl rfl rfl ?_|refine zam rfl rfl rfl rfl True.intro ?_|refine zak rfl ?_|((first |refine zad rfl ?_ ?_|refine zal rfl rfl ?_ ?_)<;>intro<;>try (first |(exfalso;omega)))|((first |refine zab rfl rfl ?_ ?_|refine zam rfl rfl rfl rfl ?_ ?_|refine zax rfl ?_ ?_);focus (first |omega|exact le_ rfl|((repeat' refine And.intro ?_ ?_)<;>omega)|((repeat' refine And.intro ?_ ?_)<;>first |rfl|exact Nat.le_refl _)))|refine zat rfl ?_|with_reducible refine ⟨by kernel_rfl, ?_⟩|fail)
      all_goals first
        | exact ⟨(k - 1, n, k), ⟨by dsimp only; omega, g3⟩, by dsimp only; omega, ⟨rfl, rfl, rfl, rfl, congrArg (D.i .i64) hdec, trivial⟩, ⟨rfl, rfl, trivial⟩, rfl, by rw [hX]; simp⟩
        | (exfalso; omega)
        | trace_state
    · rw [if_neg r] at g3
      have r1 : ¬ ((n : Int) ≥ 3 ∧ (n : Int) ≥ (p1 : Int)) := by omega
      rcases hcase with q | ⟨q, q2⟩ | ⟨q, q2, q3⟩
      repeat' (first |with_reducible (first |refine zag ?_|refine zaa ?_|refine zaf ?_|refine zac ?_|refine zah ?_|refine zan ?_|refine zai ?_|refine zao ?_|refine zaH ?_)|refine zab rfl rfl True.intro ?_|refine zay rfl rfl rfl ?_|refine zam rfl rfl rfl rfl True.intro ?_|refine zak rfl ?_|((first |refine zad rfl ?_ ?_|refine zal rfl rfl ?_ ?_)<;>intro<;>try (first |(exfalso;omega)))|((first |refine zab rfl rfl ?_ ?_|refine zam rfl rfl rfl rfl ?_ ?_);focus (first |omega|exact le_ rfl|((repeat' refine And.intro ?_ ?_)<;>omega)))|refine zat rfl ?_|with_reducible refine ⟨by kernel_rfl, ?_⟩|fail)
      all_goals first
        | exact ⟨(k - 1, p1, p2), ⟨by dsimp only; omega, g3⟩, by dsimp only; omega, ⟨rfl, rfl, rfl, rfl, congrArg (D.i .i64) hdec, trivial⟩, ⟨rfl, rfl, trivial⟩, rfl, by rw [hX]; simp⟩
        | (exfalso; omega)
        | trace_state

def boolF (l : List Bool) : Nat → List D := fun i => [.b (l.getD i false)]
theorem zfR (a b : List Bool) (g : Nat → List D) (hg : ∀ i, i < b.length → g i = boolF b i) : catF a.length (boolF a) b.length g = boolF (a ++ b) := by
  funext j
  unfold catF
  by_cases h : j < a.length
  · rw [if_pos h]
    simp [boolF, List.getD_eq_getElem?_getD, List.getElem?_append_left h]
  · rw [if_neg h]
    by_cases h2 : j < a.length + b.length
    · rw [if_pos h2, hg _ (by omega)]
      simp [boolF, List.getD_eq_getElem?_getD, List.getElem?_append_right (show a.length ≤ j by omega)]
    · rw [if_neg h2]
      simp only [boolF, List.getD_eq_getElem?_getD]
      rw [List.getElem?_eq_none (show a.length ≤ j by omega), List.getElem?_eq_none (show (a ++ b).length ≤ j by rw [List.length_append]; omega)]
theorem ziy (k : Nat) (a : List Bool) (v : Bool) (g : Nat → List D) (hg : g 0 = [.b v]) : D.gs k 1 (a.length + 1) (catF a.length (boolF a) 1 g) = D.gs k 1 (a ++ [v]).length (boolF (a ++ [v])) := by
  rw [List.length_append]
  exact congrArg (D.gs k 1 (a.length + 1)) (zfR a [v] g fun i hi => by
    obtain rfl : i = 0 := by simpa using hi
    exact hg)
theorem zmi (w : Nat) : (((w : Nat) : Int) % 2 == 1) = decide (w % 2 = 1) := by
  by_cases h : w % 2 = 1
  · rw [decide_eq_true h]
    exact beq_iff_eq.2 (by omega)
  · rw [decide_eq_false h]
    exact beq_eq_false_iff_ne.2 (by omega)
theorem zlw (v i : Nat) : decide (v / 2 ^ i % 2 = 1) = v.testBit i := by
  rw [← Nat.testBit_zero, Nat.testBit_div_two_pow, Nat.zero_add]
set_option maxRecDepth 100000 in
set_option maxHeartbeats 4000000 in
theorem zeU (v n : Nat) (hv : v < 4294967296) (hn : n ≤ 64) : Ctr Tryz.prog 161 [.i .u32 ((v : Nat) : Int), .i .i64 ((n : Nat) : Int)] (.sl 1 (lowB v n).length (boolF (lowB v n))) := by
  refine zaE Tryz.func161 rfl Tryz.ntmps161 Tryz.results161 rfl rfl fun X hL hX => ?_
  repeat' (first |refine T.adopt 5 5 4 1 (boolF []) rfl rfl ?_|with_reducible (first |refine zag ?_|refine zaa ?_|refine zaf ?_|refine zac ?_|refine zae ?_)|refine zab rfl rfl True.intro ?_|fail)
  refine T.loop hL (fun x : Nat × Nat × List Bool => [(0, .i .u32 x.2.1), (1, .i .i64 ((n : Nat) : Int)), (5, .gs 5 1 x.2.2.length (boolF x.2.2)), (6, .i .i64 x.1)]) (fun x => [(5, .row 4 1 x.2.2.length)])
    (fun x => x.1 ≤ n ∧ x.2.1 = v / 2 ^ x.1 ∧ x.2.2 = lowB v x.1) (fun x => n - x.1) (0, v, []) ⟨Nat.zero_le _, (Nat.div_one v).symm, rfl⟩
    ⟨⟨rfl, rfl, rfl, rfl, trivial⟩, ⟨rfl, trivial⟩, rfl, by rw [hX]; simp⟩ ?_
  rintro ⟨i, w, l⟩ ⟨g1, g2, g3⟩
  try dsimp only at g1 g2 g3 ⊢
  have hw : w < 4294967296 := by rw [g2]; exact Nat.lt_of_le_of_lt (Nat.div_le_self ..) hv
  have hll : l.length = i := by rw [g3, zbh]
  by_cases hi : i < n
  · have hi' : (i : Int) < (n : Int) := by omega
    have e1 : w / 2 = v / 2 ^ (i + 1) := by rw [g2, Nat.div_div_eq_div_mul, Nat.pow_succ]
    have e2 : l ++ [(((w : Nat) : Int) % 2 == 1)] = lowB v (i + 1) := by rw [zfN, ← g3, zmi, g2, zlw]
    have e3 : ((w : Nat) : Int) / 2 = ((w / 2 : Nat) : Int) := by omega
    have hwr : IntKind.u32.wrap (((w : Nat) : Int) / 2) = ((w : Nat) : Int) / 2 := by rw [IntKind.wrap_u32]; omega
    clear g2 g3
    repeat' (first |with_reducible (first |refine zag ?_|refine zaa ?_|refine zaf ?_|refine zac ?_|refine zah ?_|refine zae ?_|refine zai ?_)|refine zab rfl rfl True.intro ?_|((first |refine zad rfl ?_ ?_)<;>intro<;>try (first |(exfalso;omega)))|((first |refine zab rfl rfl ?_ ?_|refine zaw rfl rfl ?_ ?_);focus (first |(exact ⟨by omega, by decide, hwr⟩)|omega|((repeat' refine And.intro ?_ ?_)<;>omega)|((repeat' refine And.intro ?_ ?_)<;>first |omega|rfl)))|fail)
    all_goals first
      | exact ⟨(i + 1, w / 2, l ++ [(((w : Nat) : Int) % 2 == 1)]), ⟨by dsimp only; omega, e1, e2⟩, by dsimp only; omega, ⟨congrArg (D.i .u32) e3, rfl, ziy 5 l _ _ rfl, rfl, trivial⟩, ⟨by rw [List.length_append]; rfl, trivial⟩, rfl, by rw [hX]; simp⟩
      | (exfalso; omega)
      | trace_state
  have hi' : ¬ (i : Int) < (n : Int) := by omega
  rw [show n = i by omega, ← g3]
  repeat' (first |with_reducible (first |refine zag ?_|refine zaa ?_|refine zaf ?_|refine zac ?_|refine zar ?_|refine zan ?_|refine zao ?_)|refine zab rfl rfl True.intro ?_|((first |refine zad rfl ?_ ?_)<;>intro<;>try (first |(exfalso;omega)))|refine zat rfl ?_|refine zau rfl ?_|fail)
  all_goals first
    | rfl
    | (exfalso; omega)
    | trace_state
def digT (l : List Bool) : List UInt8 := l.map fun b => if b then 49 else 48
theorem zjC (v i : Nat) : turnTo v (i + 1) (i + 1) = v.testBit i :: turnTo v i i := by
  unfold turnTo
  rw [List.range_succ_eq_map, List.map_cons, List.map_map]
  congr 1
  refine List.map_congr_left fun j _ => ?_
  show v.testBit (i + 1 - 1 - (j + 1)) = v.testBit (i - 1 - j)
  rw [show i + 1 - 1 - (j + 1) = i - 1 - j by omega]
set_option maxRecDepth 100000 in
set_option maxHeartbeats 4000000 in
theorem zgi (v n : Nat) (hv : v ≤ 1000000) (hn : n ≤ 64) : Ctr Tryz.prog 207 [.i .i64 ((v : Nat) : Int), .i .i64 ((n : Nat) : Int)] (.s (digT (turnTo v n n))) := by
  refine zaE Tryz.func207 rfl Tryz.ntmps207 Tryz.results207 rfl rfl fun X hL hX => ?_
  repeat' (first |with_reducible (first |refine zag ?_|refine zaa ?_|refine zaf ?_|refine zac ?_|refine zae ?_)|refine zab rfl rfl True.intro ?_|fail)
  refine T.loop hL (fun x : Nat × Nat × List UInt8 => [(0, .i .i64 x.2.1), (1, .i .i64 ((n : Nat) : Int)), (5, .s x.2.2), (6, .i .i64 x.1)]) (fun x => [])
    (fun x => x.1 ≤ n ∧ x.2.1 = v / 2 ^ x.1 ∧ x.2.2 = digT (turnTo v x.1 x.1)) (fun x => n - x.1) (0, v, []) ⟨Nat.zero_le _, (Nat.div_one v).symm, rfl⟩
    ⟨⟨rfl, rfl, rfl, rfl, trivial⟩, trivial, rfl, by rw [hX]; simp⟩ ?_
  rintro ⟨i, w, s⟩ ⟨g1, g2, g3⟩
  try dsimp only at g1 g2 g3 ⊢
  have hw : w ≤ 1000000 := by rw [g2]; exact Nat.le_trans (Nat.div_le_self ..) hv
  have hll : s.length = i := by rw [g3]; unfold digT; rw [List.length_map, zbS]
  by_cases hi : i < n
  · have hi' : (i : Int) < (n : Int) := by omega
    have e1 : w / 2 = v / 2 ^ (i + 1) := by rw [g2, Nat.div_div_eq_div_mul, Nat.pow_succ]
    have e2 : digT (turnTo v (i + 1) (i + 1)) = (if w % 2 = 1 then 49 else 48) :: s := by
      rw [zjC]
      unfold digT at g3 ⊢
      rw [List.map_cons, ← g3, ← zlw, ← g2]
      by_cases h : w % 2 = 1
      · rw [if_pos h, decide_eq_true h]
        rfl
      · rw [if_neg h, decide_eq_false h]
        rfl
    have e3 : ((w : Nat) : Int) / 2 = ((w / 2 : Nat) : Int) := by omega
    have hwr : IntKind.i64.wrap (((w : Nat) : Int) / 2) = ((w : Nat) : Int) / 2 := by rw [wi6_]; omega
    clear g2 g3
    by_cases h : w % 2 = 1
    · rw [if_pos h] at e2
      have hq : ((w : Nat) : Int) % 2 = 1 := by omega
      repeat' (first |with_reducible (first |refine zag ?_|refine zaa ?_|refine zaf ?_|refine zac ?_|refine zah ?_|refine zae ?_|refine zai ?_)|refine zab rfl rfl True.intro ?_|((first |refine zad rfl ?_ ?_)<;>intro<;>try (first |(exfalso;omega)))|((first |refine zab rfl rfl ?_ ?_);focus (first |(exact ⟨by omega, by decide, hwr⟩)|omega|((repeat' refine And.intro ?_ ?_)<;>omega)|((repeat' refine And.intro ?_ ?_)<;>first |omega)|(simp_all;done)|(simp_all;omega)))|fail)
      all_goals first
        | exact ⟨(i + 1, w / 2, 49 :: s), ⟨by dsimp only; omega, e1, e2.symm⟩, by dsimp only; omega, ⟨congrArg (D.i .i64) e3, rfl, by rw [hq]; rfl, rfl, trivial⟩, trivial, rfl, by rw [hX]; simp⟩
        | (exfalso; omega)
        | trace_state
    · rw [if_neg h] at e2
      have hq : ((w : Nat) : Int) % 2 = 0 := by omega
      repeat' (first |with_reducible (first |refine zag ?_|refine zaa ?_|refine zaf ?_|refine zac ?_|refine zah ?_|refine zae ?_|refine zai ?_)|refine zab rfl rfl True.intro ?_|((first |refine zad rfl ?_ ?_)<;>intro<;>try (first |(exfalso;omega)))|((first |refine zab rfl rfl ?_ ?_);focus (first |(exact ⟨by omega, by decide, hwr⟩)|omega|((repeat' refine And.intro ?_ ?_)<;>omega)|((repeat' refine And.intro ?_ ?_)<;>first |omega)|(simp_all;done)|(simp_all;omega)))|fail)
      all_goals first
        | exact ⟨(i + 1, w / 2, 48 :: s), ⟨by dsimp only; omega, e1, e2.symm⟩, by dsimp only; omega, ⟨congrArg (D.i .i64) e3, rfl, by rw [hq]; rfl, rfl, trivial⟩, trivial, rfl, by rw [hX]; simp⟩
        | (exfalso; omega)
        | trace_state
  have hi' : ¬ (i : Int) < (n : Int) := by omega
  rw [show n = i by omega, ← g3]
  repeat' (first |with_reducible (first |refine zag ?_|refine zaa ?_|refine zaf ?_|refine zac ?_|refine zar ?_|refine zan ?_|refine zao ?_)|refine zab rfl rfl True.intro ?_|((first |refine zad rfl ?_ ?_)<;>intro<;>try (first |(exfalso;omega)))|refine zat rfl ?_|refine zau rfl ?_|fail)
  all_goals first
    | rfl
    | (exfalso; omega)
    | trace_state
theorem zfV (l : List Bool) {i : Nat} (h : i < l.length) : l.take i ++ [l.getD i false] = l.take (i + 1) := by
  rw [List.take_add_one, List.getElem?_eq_getElem h]
  simp [List.getD_eq_getElem?_getD, h]
set_option maxRecDepth 100000 in
set_option maxHeartbeats 4000000 in
theorem zcx (l : List Bool) (hl : l.length ≤ 1000) : Ctr Tryz.prog 158 [.s (digT l)] (.sl 1 l.length (boolF l)) := by
  have hdl : (digT l).length = l.length := List.length_map ..
  refine zaE Tryz.func158 rfl Tryz.ntmps158 Tryz.results158 rfl rfl fun X hL hX => ?_
  repeat' (first |refine T.adopt 3 3 4 1 (boolF []) rfl rfl ?_|with_reducible (first |refine zag ?_|refine zaa ?_|refine zaf ?_|refine zac ?_|refine zae ?_)|refine zab rfl rfl True.intro ?_|fail)
  refine T.loop hL (fun x : Nat × List Bool => [(0, .s (digT l)), (3, .gs 3 1 x.2.length (boolF x.2)), (4, .i .i64 x.1)]) (fun x => [(3, .row 4 1 x.2.length)])
    (fun x => x.1 ≤ l.length ∧ x.2.length = x.1 ∧ x.2 = l.take x.1) (fun x => l.length - x.1) (0, []) ⟨Nat.zero_le _, rfl, (List.take_zero ..).symm⟩
    ⟨⟨rfl, rfl, rfl, trivial⟩, ⟨rfl, trivial⟩, rfl, by rw [hX]; simp⟩ ?_
  rintro ⟨i, k⟩ ⟨g1, g2, g3⟩
  try dsimp only at g1 g2 g3 ⊢
  have hnat : (i : Int).toNat = i := Int.toNat_natCast i
  by_cases hi : i < l.length
  · have hi' : (i : Int) < ((digT l).length : Int) := by omega
    have hb : (at' (digT l) (i : Int) == 49) = l.getD i false := by
      unfold at' digT
      rw [hnat, List.getD_eq_getElem?_getD, List.getElem?_map, List.getElem?_eq_getElem hi, List.getD_eq_getElem?_getD, List.getElem?_eq_getElem hi]
      simp only [Option.map_some, Option.getD_some]
      cases l[i] <;> rfl
    have e2 : k ++ [(at' (digT l) (i : Int) == 49)] = l.take (i + 1) := by rw [hb, g3, zfV l hi]
    clear hb g3
    repeat' (first |with_reducible (first |refine zag ?_|refine zaa ?_|refine zaf ?_|refine zac ?_|refine zah ?_|refine zae ?_|refine zai ?_)|refine zab rfl rfl True.intro ?_|((first |refine zad rfl ?_ ?_)<;>intro<;>try (first |(exfalso;omega)))|((first |refine zab rfl rfl ?_ ?_|refine zaw rfl rfl ?_ ?_);focus (first |omega|((repeat' refine And.intro ?_ ?_)<;>omega)|((repeat' refine And.intro ?_ ?_)<;>first |omega|rfl)))|fail)
    all_goals first
      | exact ⟨(i + 1, k ++ [(at' (digT l) (i : Int) == 49)]), ⟨by dsimp only; omega, by dsimp only; rw [List.length_append]; simp; omega, e2⟩, by dsimp only; omega, ⟨rfl, ziy 3 k _ _ rfl, rfl, trivial⟩, ⟨by rw [List.length_append]; rfl, trivial⟩, rfl, by rw [hX]; simp⟩
      | (exfalso; omega)
      | trace_state
  have hi' : ¬ (i : Int) < ((digT l).length : Int) := by omega
  rw [List.take_of_length_le (by omega)] at g3
  subst g3
  repeat' (first |with_reducible (first |refine zag ?_|refine zaa ?_|refine zaf ?_|refine zac ?_|refine zar ?_|refine zan ?_|refine zao ?_)|refine zab rfl rfl True.intro ?_|((first |refine zad rfl ?_ ?_)<;>intro<;>try (first |(exfalso;omega)))|refine zat rfl ?_|refine zau rfl ?_|fail)
  all_goals first
    | rfl
    | (exfalso; omega)
    | trace_state
set_option maxRecDepth 100000 in
set_option maxHeartbeats 4000000 in
theorem zhH (n : Nat) (hn : n ≤ 1000) : Ctr Tryz.prog 155 [.i .i64 ((n : Nat) : Int)] (.i .i64 ((litN n : Nat) : Int)) := by
  refine zaE Tryz.func155 rfl Tryz.ntmps155 Tryz.results155 rfl rfl fun X hL hX => ?_
  unfold litN
  by_cases h1 : n < 144
  · rw [if_pos h1]
    repeat' (first |with_reducible (first |refine zag ?_|refine zaa ?_|refine zaf ?_|refine zac ?_|refine zar ?_|refine zah ?_)|refine zab rfl rfl True.intro ?_|refine zay rfl rfl rfl ?_|refine zak rfl ?_|((first |refine zal rfl rfl ?_ ?_)<;>intro<;>try (first |(exfalso;omega)))|refine zau rfl ?_|fail)
    all_goals first
      | rfl
      | (exfalso; omega)
      | trace_state
  rw [if_neg h1]
  by_cases h2 : n < 256
  · rw [if_pos h2]
    repeat' (first |with_reducible (first |refine zag ?_|refine zaa ?_|refine zaf ?_|refine zac ?_|refine zar ?_|refine zaB ?_)|refine zab rfl rfl True.intro ?_|refine zam rfl rfl rfl rfl True.intro ?_|((first |refine zad rfl ?_ ?_|refine zal rfl rfl ?_ ?_)<;>intro<;>try (first |(exfalso;omega)))|refine zau rfl ?_|fail)
    all_goals first
      | rfl
      | (exfalso; omega)
      | trace_state
  rw [if_neg h2]
  by_cases h3 : n < 280
  · rw [if_pos h3]
    repeat' (first |with_reducible (first |refine zag ?_|refine zaa ?_|refine zaf ?_|refine zac ?_|refine zar ?_|refine zah ?_|refine zaB ?_)|refine zab rfl rfl True.intro ?_|refine zam rfl rfl rfl rfl True.intro ?_|((first |refine zad rfl ?_ ?_|refine zal rfl rfl ?_ ?_)<;>intro<;>try (first |(exfalso;omega)))|refine zau rfl ?_|fail)
    all_goals first
      | rfl
      | (exfalso; omega)
      | trace_state
  · rw [if_neg h3]
    repeat' (first |with_reducible (first |refine zag ?_|refine zaa ?_|refine zaf ?_|refine zac ?_|refine zar ?_|refine zah ?_)|refine zab rfl rfl True.intro ?_|refine zam rfl rfl rfl rfl True.intro ?_|((first |refine zad rfl ?_ ?_|refine zal rfl rfl ?_ ?_)<;>intro<;>try (first |(exfalso;omega)))|refine zau rfl ?_|fail)
    all_goals first
      | rfl
      | (exfalso; omega)
      | trace_state

def cntN (ln : Nat → Nat) (s : Nat) : Nat → Nat
  | 0 => 0
  | m + 1 => cntN ln s m + if ln m = s then 1 else 0
def vE (ln : Nat → Nat) (N : Nat) : Nat → Nat
  | 0 => 0
  | s + 1 => 2 * vE ln N s + cntN ln (s + 1) N
theorem ziE (ln : Nat → Nat) (s : Nat) : ∀ m, cntN ln s m ≤ m
  | 0 => Nat.le_refl _
  | m + 1 => by
    have := ziE ln s m
    rw [cntN]
    split <;> omega
theorem ziL : ∀ n, n < 288 → 2 * vE litN 288 (litN n - 1) + cntN litN (litN n) n = cdLit n := by decide +kernel
theorem ziN : ∀ n, n < 32 → 2 * vE fivN 32 (fivN n - 1) + cntN fivN (fivN n) n = cdFiv n := by decide +kernel
theorem ziV : ∀ s, s < 16 → vE litN 288 s ≤ 100000 := by decide +kernel
theorem zjO : ∀ s, s < 16 → vE fivN 32 s ≤ 100000 := by decide +kernel
def strAt (ln cd : Nat → Nat) (s n : Nat) : Nat → List D := fun m => [.s (if ln m < s ∨ (ln m = s ∧ m < n) then digT (turnTo (cd m) (ln m) (ln m)) else [])]
def strF (ln cd : Nat → Nat) : Nat → List D := fun m => [.s (digT (turnTo (cd m) (ln m) (ln m)))]
theorem zhL {ln cd : Nat → Nat} {s n m : Nat} (h : ¬ ln n = s) : strAt ln cd s n m = strAt ln cd s (n + 1) m := by
  unfold strAt
  by_cases h1 : ln m < s ∨ (ln m = s ∧ m < n)
  · rw [if_pos h1, if_pos (h1.elim .inl fun q => .inr ⟨q.1, by omega⟩)]
  · rw [if_neg h1, if_neg (fun q => h1 (q.elim .inl fun q => .inr ⟨q.1, by
      have : ¬ m = n := fun e => h (by rw [← e]; exact q.1)
      omega⟩))]
theorem zhp {ln cd : Nat → Nat} {s N m : Nat} (hm : m < N) : strAt ln cd s N m = strAt ln cd (s + 1) 0 m := by
  unfold strAt
  by_cases h1 : ln m < s + 1
  · rw [if_pos (by omega), if_pos (.inl h1)]
  · rw [if_neg (by omega), if_neg (by omega)]
theorem zje {ln cd : Nat → Nat} {s n : Nat} (h : ln n = s) (m : Nat) : putF (strAt ln cd s n) n (putCells (strAt ln cd s n n) 0 (D.s (digT (turnTo (cd n) s s))).cells) m = strAt ln cd s (n + 1) m := by
  unfold putF
  by_cases e : m = n
  · rw [if_pos e, e]
    show [D.s (digT (turnTo (cd n) s s))] = [D.s (if ln n < s ∨ (ln n = s ∧ n < n + 1) then digT (turnTo (cd n) (ln n) (ln n)) else [])]
    rw [if_pos (.inr ⟨h, Nat.lt_succ_self _⟩), h]
  · rw [if_neg e]
    unfold strAt
    by_cases h1 : ln m < s ∨ (ln m = s ∧ m < n)
    · rw [if_pos h1, if_pos (h1.elim .inl fun q => .inr ⟨q.1, by omega⟩)]
    · rw [if_neg h1, if_neg (fun q => h1 (q.elim .inl fun q => .inr ⟨q.1, by omega⟩))]
set_option maxRecDepth 100000 in
set_option maxHeartbeats 8000000 in
theorem zfA (ln cd : Nat → Nat) (N : Nat) (hN : N ≤ 300) (hln : ∀ n, n < N → 1 ≤ ln n ∧ ln n ≤ 15) (hcd : ∀ n, n < N → 2 * vE ln N (ln n - 1) + cntN ln (ln n) n = cd n) (hv : ∀ s, s < 16 → vE ln N s ≤ 100000) :
    Ctr Tryz.prog 156 [.sl 1 N (natF ln)] (.sl 1 N (strF ln cd)) := by
  have cG := fun v s (h1 : v ≤ 1000000) (h2 : s ≤ 64) => zgi v s h1 h2
  refine zaE Tryz.func156 rfl Tryz.ntmps156 Tryz.results156 rfl rfl fun X hL hX => ?_
  repeat' (first |with_reducible (first |refine zag ?_|refine zaa ?_|refine zaf ?_|refine zac ?_|refine zae ?_)|refine zab rfl rfl True.intro ?_|((first |refine zaw rfl rfl ?_ ?_);focus (first |((repeat' refine And.intro ?_ ?_)<;>omega)|((repeat' refine And.intro ?_ ?_)<;>first |omega|rfl)))|fail)
  refine T.loop hL (fun s : Nat => [(0, .sl 1 N (natF ln)), (3, .ah 9 1 N), (4, .i .i64 ((vE ln N s : Nat) : Int)), (5, .i .i64 ((s + 1 : Nat) : Int))]) (fun s => [(9, .arr 9 1 N (strAt ln cd (s + 1) 0))])
    (fun s => s ≤ 15) (fun s => 15 - s) 0 (Nat.zero_le _)
    ⟨⟨rfl, rfl, rfl, rfl, trivial⟩, ⟨⟨_, _, rfl, rfl, fun m hm => .inl (by
      unfold strAt
      have := hln m (by simpa using hm)
      rw [if_neg (by omega)])⟩, trivial⟩, rfl, by rw [hX]; simp⟩ ?_
  intro s g1
  try dsimp only at g1 ⊢
  by_cases hs : s < 15
  rotate_left
  · have hs' : ¬ ((s + 1 : Nat) : Int) < 16 := by omega
    have : s = 15 := by omega
    subst this
    clear cG
    refine T.freeze [3] 9 9 1 N _ rfl ⟨rfl, trivial⟩ ?_
    repeat' (first |with_reducible (first |refine zag ?_|refine zaa ?_|refine zaf ?_|refine zac ?_|refine zar ?_|refine zan ?_|refine zao ?_)|refine zab rfl rfl True.intro ?_|refine zak rfl ?_|refine zat rfl ?_|refine zfT rfl ?_|fail)
    all_goals first
      | (exfalso; omega)
      | (refine .sl _ _ _ _ (fun k hk => ?_) fun k j hk hj => ?_
         · exact ⟨rfl, rfl⟩
         · have h1 : strAt ln cd 16 0 k = strF ln cd k := by
             unfold strAt strF
             have := hln k hk
             rw [if_pos (by omega)]
           have h2 : Weak ((strAt ln cd 16 0 k).getD j .any) ((strF ln cd k).getD j .any) := by rw [h1]; exact .refl _
           exact h2)
      | trace_state
  have hs' : ((s + 1 : Nat) : Int) < 16 := by omega
  have hve := hv s (by omega)
  repeat' (first |with_reducible (first |refine zag ?_|refine zaa ?_|refine zaf ?_|refine zac ?_|refine zah ?_|refine zae ?_)|refine zab rfl rfl True.intro ?_|((first |refine zad rfl ?_ ?_)<;>intro<;>try (first |(exfalso;omega)))|((first |refine zab rfl rfl ?_ ?_);focus (first |omega|((repeat' refine And.intro ?_ ?_)<;>omega)))|fail)
  refine T.loop hL (fun n : Nat => [(0, .sl 1 N (natF ln)), (3, .ah 9 1 N), (4, .i .i64 ((2 * vE ln N s + cntN ln (s + 1) n : Nat) : Int)), (5, .i .i64 ((s + 1 : Nat) : Int)), (6, .i .i64 n)]) (fun n => [(9, .arr 9 1 N (strAt ln cd (s + 1) n))])
    (fun n => n ≤ N) (fun n => N - n) 0 (Nat.zero_le _)
    ⟨⟨rfl, rfl, congrArg (D.i .i64) (by show 2 * ((vE ln N s : Nat) : Int) = ((2 * vE ln N s + 0 : Nat) : Int); omega), rfl, rfl, trivial⟩, ⟨⟨_, _, rfl, rfl, fun m hm => .inl rfl⟩, trivial⟩, rfl, by rw [hX]; simp⟩ ?_
  intro n g2
  try dsimp only at g2 ⊢
  have hnat : (n : Int).toNat = n := Int.toNat_natCast n
  by_cases hn : n < N
  rotate_left
  · have hn' : ¬ (n : Int) < (N : Int) := by omega
    have : n = N := by omega
    subst this
    clear cG
    repeat' (first |with_reducible (first |refine zag ?_|refine zaa ?_|refine zaf ?_|refine zac ?_|refine zan ?_|refine zai ?_|refine zao ?_)|refine zab rfl rfl True.intro ?_|((first |refine zad rfl ?_ ?_)<;>intro<;>try (first |(exfalso;omega)))|((first |refine zab rfl rfl ?_ ?_);focus (first |omega|((repeat' refine And.intro ?_ ?_)<;>omega)))|refine zat rfl ?_|fail)
    all_goals first
      | exact ⟨s + 1, by omega, by omega, ⟨rfl, rfl, rfl, rfl, trivial⟩, ⟨⟨_, _, rfl, rfl, fun m hm => .inl (zhp hm)⟩, trivial⟩, rfl, by rw [hX]; simp⟩
      | (exfalso; omega)
      | trace_state
  have hn' : (n : Int) < (N : Int) := by omega
  have hcl := ziE ln (s + 1) n
  have c := cG (2 * vE ln N s + cntN ln (s + 1) n) (s + 1) (by omega) (by omega)
  clear cG
  by_cases hq : ln n = s + 1
  · have hq' : ((ln (n : Int).toNat : Nat) : Int) = ((s + 1 : Nat) : Int) := by rw [hnat, hq]
    have hc := hcd n hn
    rw [hq, show s + 1 - 1 = s by omega] at hc
    have hput := fun m => zje (cd := cd) hq m
    rw [hc] at c
    rw [hc]
    have hnx : 2 * vE ln N s + cntN ln (s + 1) (n + 1) = cd n + 1 := by
      rw [← hc, cntN, if_pos hq]
      omega
    have hcdb : cd n ≤ 300000 := by omega
    clear hc hve hcl
    repeat' (first |refine zaj (f := 207) rfl rfl Tryz.call207 rfl c ?_|with_reducible (first |refine zag ?_|refine zaa ?_|refine zaf ?_|refine zac ?_|refine zah ?_|refine zae ?_|refine zai ?_)|refine zab rfl rfl True.intro ?_|((first |refine zad rfl ?_ ?_)<;>intro<;>try (first |(exfalso;omega)))|((first |refine zab rfl rfl ?_ ?_|refine zax rfl ?_ ?_);focus (first |omega|exact le_ rfl|((repeat' refine And.intro ?_ ?_)<;>omega)|((repeat' refine And.intro ?_ ?_)<;>first |omega|rfl|exact Nat.le_refl _)))|fail)
    all_goals first
      | exact ⟨n + 1, by omega, by omega, ⟨rfl, rfl, congrArg (D.i .i64) (congrArg (fun q : Nat => (q : Int)) hnx.symm), rfl, rfl, trivial⟩, ⟨⟨_, _, rfl, rfl, fun m hm => .inl (by rw [hnat]; exact hput m)⟩, trivial⟩, rfl, by rw [hX]; simp⟩
      | (exfalso; omega)
      | trace_state
  · have hq' : ¬ ((ln (n : Int).toNat : Nat) : Int) = ((s + 1 : Nat) : Int) := by rw [hnat]; omega
    have hnx : cntN ln (s + 1) (n + 1) = cntN ln (s + 1) n := by rw [cntN, if_neg hq]; rfl
    clear c
    repeat' (first |with_reducible (first |refine zag ?_|refine zaa ?_|refine zaf ?_|refine zac ?_|refine zah ?_|refine zae ?_|refine zai ?_)|refine zab rfl rfl True.intro ?_|((first |refine zad rfl ?_ ?_)<;>intro<;>try (first |(exfalso;omega)))|((first |refine zab rfl rfl ?_ ?_);focus (first |omega|exact le_ rfl|((repeat' refine And.intro ?_ ?_)<;>omega)))|fail)
    all_goals first
      | exact ⟨n + 1, by omega, by omega, ⟨rfl, rfl, congrArg (D.i .i64) (congrArg (fun q : Nat => ((2 * vE ln N s + q : Nat) : Int)) hnx.symm), rfl, rfl, trivial⟩, ⟨⟨_, _, rfl, rfl, fun m hm => .inl (zhL hq)⟩, trivial⟩, rfl, by rw [hX]; simp⟩
      | (exfalso; omega)
      | trace_state

theorem zgz (l : List Bool) (k : Nat) : byteB (l ++ [false]) k = byteB l k := by
  rw [zbV]
  split
  · simp
  · rfl
theorem zhw (l : List Bool) : byteB (l ++ [true]) (l.length / 8) = byteB l (l.length / 8) + 2 ^ (l.length % 8) := by
  rw [zbV, if_pos rfl]
  simp
set_option maxRecDepth 100000 in
set_option maxHeartbeats 8000000 in
theorem zgI (l : List Bool) (hl : l.length ≤ 1000000) : Ctr Tryz.prog 162 [.sl 1 l.length (boolF l)] (.sl 1 (packB l).length (bytesF (packB l))) := by
  rw [zdy, ← zef]
  refine zaE Tryz.func162 rfl Tryz.ntmps162 Tryz.results162 rfl rfl fun X hL hX => ?_
  repeat' (first |refine T.adoptA 3 3 5 1 (bitF []) rfl rfl ?_|with_reducible (first |refine zag ?_|refine zaa ?_|refine zaf ?_|refine zac ?_|refine zae ?_)|refine zab rfl rfl True.intro ?_|fail)
  refine T.loop hL (fun i : Nat => [(0, .sl 1 l.length (boolF l)), (3, .ah 3 1 (lenB i)), (4, .i .i64 i)]) (fun i => [(3, .arr 5 1 (lenB i) (bitF (l.take i)))])
    (fun i => i ≤ l.length) (fun i => l.length - i) 0 (Nat.zero_le _)
    ⟨⟨rfl, rfl, rfl, trivial⟩, ⟨⟨_, _, rfl, rfl, fun m hm => .inl (by rw [List.take_zero])⟩, trivial⟩, rfl, by rw [hX]; simp⟩ ?_
  intro i g1
  try dsimp only at g1 ⊢
  have hnat : (i : Int).toNat = i := Int.toNat_natCast i
  by_cases hi : i < l.length
  rotate_left
  · have hi' : ¬ (i : Int) < (l.length : Int) := by omega
    have : i = l.length := by omega
    subst this
    have hlt : l.take l.length = l := List.take_length
    rw [hlt]
    refine T.freeze [3] 3 5 1 (lenB l.length) _ rfl ⟨rfl, trivial⟩ ?_
    repeat' (first |with_reducible (first |refine zag ?_|refine zaa ?_|refine zaf ?_|refine zac ?_|refine zar ?_|refine zan ?_|refine zao ?_)|refine zab rfl rfl True.intro ?_|((first |refine zad rfl ?_ ?_)<;>intro<;>try (first |(exfalso;omega)))|refine zat rfl ?_|refine zau rfl ?_|fail)
    all_goals first
      | rfl
      | (exfalso; omega)
      | trace_state
  have hi' : (i : Int) < (l.length : Int) := by omega
  have htl : (l.take i).length = i := by rw [List.length_take]; omega
  have hz0 := zfp (n := i)
  have hm0 := zfi (n := i)
  have hle : lenB i ≤ 1000000 := by unfold lenB; omega
  have htk := zfV l hi
  have hb3 := zde (l.take i) (i / 8)
  have hbl := zem (l.take i)
  rw [htl] at hbl
  -- the cells as they are before the bit is laid
  have hcat : ∀ m, m < lenB i + 1 → i % 8 = 0 → catF (lenB i) (bitF (l.take i)) 1 (chunk 1 [.i .u8 0]) m = bitF (l.take i) m := fun m hm hz => by
    unfold catF
    by_cases h : m < lenB i
    · rw [if_pos h]
    · rw [if_neg h, if_pos hm]
      have : m = lenB i := by omega
      subst this
      have := (hz0 hz).2
      unfold bitF
      rw [zbv (by rw [htl]; omega), Nat.sub_self]
      rfl
  cases hb : l.getD i false with
  | false =>
    have htell : (D.b (l.getD (i : Int).toNat false)).shut = D.b false := by rw [hnat, hb]; rfl
    rw [hb] at htk
    have hnext : ∀ m, bitF (l.take i) m = bitF (l.take (i + 1)) m := fun m => by
      rw [← htk]
      unfold bitF
      rw [zgz]
    by_cases hz : i % 8 = 0
    · have hz' : (i : Int) % 8 = 0 := by omega
      obtain ⟨z1, z2⟩ := hz0 hz
      repeat' (first |refine T.tellS 22 (.b (l.getD (i : Int).toNat false)) (.b false) rfl (Weak.of_eq htell) ?_|with_reducible (first |refine zag ?_|refine zaa ?_|refine zaf ?_|refine zac ?_|refine zah ?_|refine zae ?_|refine zai ?_)|refine zab rfl rfl True.intro ?_|refine zak rfl ?_|((first |refine zad rfl ?_ ?_)<;>intro<;>try (first |(exfalso;omega)))|((first |refine zab rfl rfl ?_ ?_|refine zaw rfl rfl ?_ ?_);focus (first |omega|exact le_ rfl|((repeat' refine And.intro ?_ ?_)<;>omega)|((repeat' refine And.intro ?_ ?_)<;>first |omega|rfl)))|fail)
      all_goals first
        | exact ⟨i + 1, by omega, by omega, ⟨rfl, congrArg (D.ah 3 1) z1.symm, rfl, trivial⟩, ⟨⟨_, _, rfl, z1.symm, fun m hm => .inl (by rw [hcat m (by omega) hz, hnext])⟩, trivial⟩, rfl, by rw [hX]; simp⟩
        | (exfalso; omega)
        | trace_state
    · have hz' : ¬ (i : Int) % 8 = 0 := by omega
      obtain ⟨z1, z2⟩ := hm0 hz
      repeat' (first |refine T.tellS 22 (.b (l.getD (i : Int).toNat false)) (.b false) rfl (Weak.of_eq htell) ?_|with_reducible (first |refine zag ?_|refine zaa ?_|refine zaf ?_|refine zac ?_|refine zah ?_|refine zae ?_|refine zai ?_)|refine zab rfl rfl True.intro ?_|refine zak rfl ?_|((first |refine zad rfl ?_ ?_)<;>intro<;>try (first |(exfalso;omega)))|((first |refine zab rfl rfl ?_ ?_);focus (first |omega|exact le_ rfl|((repeat' refine And.intro ?_ ?_)<;>omega)))|fail)
      all_goals first
        | exact ⟨i + 1, by omega, by omega, ⟨rfl, congrArg (D.ah 3 1) z1.symm, rfl, trivial⟩, ⟨⟨_, _, rfl, z1.symm, fun m hm => .inl (by rw [hnext])⟩, trivial⟩, rfl, by rw [hX]; simp⟩
        | (exfalso; omega)
        | trace_state
  | true =>
    have htell : (D.b (l.getD (i : Int).toNat false)).shut = D.b true := by rw [hnat, hb]; rfl
    rw [hb] at htk
    have hlen1 : lenB (i + 1) = i / 8 + 1 := by unfold lenB; omega
    have hidx : (((lenB (i + 1) : Nat) : Int) - 1).toNat = (l.take i).length / 8 := by rw [htl]; omega
    have hidx2 : (((lenB (i + 1) : Nat) : Int) - 1).toNat = i / 8 := by omega
    have hx : IntKind.u8.wrap (IntKind.i64.wrap ((byteB (l.take i) (((lenB (i + 1) : Nat) : Int) - 1).toNat : Nat) : Int) + ((2 ^ (i % 8) : Nat) : Int)) = ((byteB (l.take i ++ [true]) ((l.take i).length / 8) : Nat) : Int) := by
      have h1 := zhw (l.take i)
      have h2 := zde (l.take i ++ [true]) ((l.take i).length / 8)
      rw [htl] at h1 h2 ⊢
      rw [hidx2]
      rw [h1] at h2 ⊢
      clear h1
      rw [IntKind.wrap_u8, wi6_]
      generalize 2 ^ (i % 8) = t at *
      generalize byteB (l.take i) (i / 8) = a at *
      clear hcat hm0 hz0 hidx hidx2 hlen1
      omega
    have hfin := zgf (f := bitF (l.take i)) (l := l.take i) (b := true) (L := lenB (i + 1)) hidx (fun _ _ _ => rfl) rfl hx
    rw [htk] at hfin
    by_cases hz : i % 8 = 0
    · have hz' : (i : Int) % 8 = 0 := by omega
      obtain ⟨z1, z2⟩ := hz0 hz
      repeat' (first |refine T.tellS 22 (.b (l.getD (i : Int).toNat false)) (.b true) rfl (Weak.of_eq htell) ?_|with_reducible (first |refine zag ?_|refine zaa ?_|refine zaf ?_|refine zac ?_|refine zah ?_|refine zae ?_)|refine zab rfl rfl True.intro ?_|refine zas rfl ?_|((first |refine zad rfl ?_ ?_)<;>intro<;>try (first |(exfalso;omega)))|((first |refine zab rfl rfl ?_ ?_|refine zaw rfl rfl ?_ ?_);focus (first |omega|exact le_ rfl|((repeat' refine And.intro ?_ ?_)<;>omega)|((repeat' refine And.intro ?_ ?_)<;>first |omega|rfl)))|fail)
      refine T.loop hL (fun j : Nat => [(0, .sl 1 l.length (boolF l)), (3, .ah 3 1 (lenB (i + 1))), (4, .i .i64 i), (5, .i .i64 ((2 ^ j : Nat) : Int)), (6, .i .i64 j)]) (fun j => [(3, .arr 5 1 (lenB (i + 1)) (bitF (l.take i)))])
        (fun j => j ≤ i % 8) (fun j => i % 8 - j) 0 (Nat.zero_le _)
        ⟨⟨rfl, congrArg (D.ah 3 1) z1.symm, rfl, rfl, rfl, trivial⟩, ⟨⟨_, _, rfl, z1.symm, fun m hm => .inl (by rw [hcat m (by omega) hz])⟩, trivial⟩, rfl, by rw [hX]; simp⟩ ?_
      intro j g2
      try dsimp only at g2 ⊢
      have : j = 0 := by omega
      subst this
      have hj' : ¬ ((0 : Nat) : Int) < (i : Int) % 8 := by omega
      rw [hz] at hfin
      have hle2 : lenB (i + 1) ≤ 1000001 := by omega
      clear hx hcat
      have hconv : -9223372036854775808 ≤ IntKind.i64.wrap ((byteB (l.take i) (((lenB (i + 1) : Nat) : Int) - 1).toNat : Nat) : Int) + ((2 ^ 0 : Nat) : Int) ∧ IntKind.i64.wrap ((byteB (l.take i) (((lenB (i + 1) : Nat) : Int) - 1).toNat : Nat) : Int) + ((2 ^ 0 : Nat) : Int) ≤ 9223372036854775807 := by
        rw [hidx2, wi6_, show 2 ^ 0 = 1 from rfl]
        omega
      repeat' (first |with_reducible (first |refine zag ?_|refine zaa ?_|refine zaf ?_|refine zac ?_|refine zan ?_|refine zai ?_|refine zao ?_)|refine zab rfl rfl True.intro ?_|((first |refine zad rfl ?_ ?_)<;>intro<;>try (first |(exfalso;omega)))|((first |refine zab rfl rfl ?_ ?_|refine zax rfl ?_ ?_);focus (first |(exact hconv)|omega|((repeat first |rw [wrap_u8]|rw [wi6_]);(repeat' refine And.intro ?_ ?_)<;>omega)|((repeat' refine And.intro ?_ ?_)<;>first |omega|rfl|exact Nat.le_refl _)))|refine zat rfl ?_|fail)
      all_goals first
        | exact ⟨i + 1, by omega, by omega, ⟨rfl, rfl, rfl, trivial⟩, ⟨⟨_, _, rfl, rfl, fun m hm => .inl (hfin m hm)⟩, trivial⟩, rfl, by rw [hX]; simp⟩
        | (exfalso; omega)
        | trace_state
    · have hz' : ¬ (i : Int) % 8 = 0 := by omega
      obtain ⟨z1, z2⟩ := hm0 hz
      repeat' (first |refine T.tellS 22 (.b (l.getD (i : Int).toNat false)) (.b true) rfl (Weak.of_eq htell) ?_|with_reducible (first |refine zag ?_|refine zaa ?_|refine zaf ?_|refine zac ?_|refine zah ?_|refine zae ?_)|refine zab rfl rfl True.intro ?_|refine zas rfl ?_|((first |refine zad rfl ?_ ?_)<;>intro<;>try (first |(exfalso;omega)))|((first |refine zab rfl rfl ?_ ?_);focus (first |omega|exact le_ rfl|((repeat' refine And.intro ?_ ?_)<;>omega)))|fail)
      refine T.loop hL (fun j : Nat => [(0, .sl 1 l.length (boolF l)), (3, .ah 3 1 (lenB (i + 1))), (4, .i .i64 i), (5, .i .i64 ((2 ^ j : Nat) : Int)), (6, .i .i64 j)]) (fun j => [(3, .arr 5 1 (lenB (i + 1)) (bitF (l.take i)))])
        (fun j => j ≤ i % 8) (fun j => i % 8 - j) 0 (Nat.zero_le _)
        ⟨⟨rfl, congrArg (D.ah 3 1) z1.symm, rfl, rfl, rfl, trivial⟩, ⟨⟨_, _, rfl, z1.symm, fun m hm => .inl rfl⟩, trivial⟩, rfl, by rw [hX]; simp⟩ ?_
      intro j g2
      try dsimp only at g2 ⊢
      have hpow : 2 ^ j ≤ 128 := Nat.le_trans (Nat.pow_le_pow_right (by decide) (show j ≤ 7 by omega)) (by decide)
      have hdbl : 2 * ((2 ^ j : Nat) : Int) = ((2 ^ (j + 1) : Nat) : Int) := by rw [Nat.pow_succ]; omega
      have hle2 : lenB (i + 1) ≤ 1000001 := by omega
      clear hx hcat
      by_cases hj : j < i % 8
      · have hj' : ((j : Nat) : Int) < (i : Int) % 8 := by omega
        generalize hq : 2 ^ j = q at *
        clear hfin
        repeat' (first |with_reducible (first |refine zag ?_|refine zaa ?_|refine zaf ?_|refine zac ?_|refine zah ?_|refine zae ?_|refine zai ?_)|refine zab rfl rfl True.intro ?_|((first |refine zad rfl ?_ ?_)<;>intro<;>try (first |(exfalso;omega)))|((first |refine zab rfl rfl ?_ ?_);focus (first |omega|((repeat' refine And.intro ?_ ?_)<;>omega)))|fail)
        all_goals first
          | exact ⟨j + 1, by omega, by omega, ⟨rfl, rfl, rfl, congrArg (D.i .i64) hdbl, rfl, trivial⟩, ⟨⟨_, _, rfl, rfl, fun m hm => .inl rfl⟩, trivial⟩, rfl, by rw [hX]; simp⟩
          | (exfalso; omega)
          | trace_state
      · have hj' : ¬ ((j : Nat) : Int) < (i : Int) % 8 := by omega
        have hji : i % 8 = j := by omega
        rw [hji] at hfin
        generalize hq : 2 ^ j = q at *
        clear hdbl
        have hconv : -9223372036854775808 ≤ IntKind.i64.wrap ((byteB (l.take i) (((lenB (i + 1) : Nat) : Int) - 1).toNat : Nat) : Int) + (q : Int) ∧ IntKind.i64.wrap ((byteB (l.take i) (((lenB (i + 1) : Nat) : Int) - 1).toNat : Nat) : Int) + (q : Int) ≤ 9223372036854775807 := by
          rw [hidx2, wi6_]
          omega
        repeat' (first |with_reducible (first |refine zag ?_|refine zaa ?_|refine zaf ?_|refine zac ?_|refine zan ?_|refine zai ?_|refine zao ?_)|refine zab rfl rfl True.intro ?_|((first |refine zad rfl ?_ ?_)<;>intro<;>try (first |(exfalso;omega)))|((first |refine zab rfl rfl ?_ ?_|refine zax rfl ?_ ?_);focus (first |(exact hconv)|omega|((repeat first |rw [wrap_u8]|rw [wi6_]);(repeat' refine And.intro ?_ ?_)<;>omega)|((repeat' refine And.intro ?_ ?_)<;>first |omega|rfl|exact Nat.le_refl _)))|refine zat rfl ?_|fail)
        all_goals first
          | exact ⟨i + 1, by omega, by omega, ⟨rfl, rfl, rfl, trivial⟩, ⟨⟨_, _, rfl, rfl, fun m hm => .inl (hfin m hm)⟩, trivial⟩, rfl, by rw [hX]; simp⟩
          | (exfalso; omega)
          | trace_state
end Go.Proofs.YtkkaamhocpmhkaaGreatDoor.Flow
