/- The texts G19, G26, G27, G28, G29, one behind the other. -/
import Derived.Test.YtcajofhafpkbdaaGreatDoorCQ25
import Derived.Test.YtcajofhafpkbdaaGreatDoorCQ26
namespace Go.Proofs.YtcajofhafpkbdaaGreatDoor.Flow
open Go
def liveS : SrcR := ⟨[120], [], [], [], [], [], [], false, false⟩
def liveC : CmpR := ⟨[97], [liveS], 0, 3, 0⟩
def liveJ : J := listJ [mapJ [txJ [97], listJ [mapJ [txJ [120]] [kArchive]], .mk 2 false false [] 0 [] [] [], .mk 2 false false [51] 0 [] [] [], .mk 2 false false [] 0 [] [] []] [kId, kSources, kBuffer, kMaxzoom, kLimit]]
theorem znz : ofF 3 0 = (false, [51], 0) := by
  have e : Lib.decDigits 3 = [51] := by rw [Lib.decDigits, dif_pos (by decide)]; rfl
  unfold ofF
  rw [if_neg (by omega), show (3 : Int).natAbs = 3 from rfl, e]
  decide
theorem zgv : confJ [liveC] = liveJ := by
  show listJ [mapJ [txJ [97], listJ [srcJ liveS], numJ 0, numJ 3, numJ 0] [kId, kSources, kBuffer, kMaxzoom, kLimit]] = _
  unfold numJ
  rw [zpb, znz]
  rfl
theorem zlF : rightJ 64 liveJ = true := by decide +kernel
theorem zqF : okL [liveC] := by
  have e : decide (okL [liveC]) = true := by decide +kernel
  exact of_decide_eq_true e
theorem zoE : textJ liveJ = [91, 123, 34, 105, 100, 34, 58, 34, 97, 34, 44, 34, 115, 111, 117, 114, 99, 101, 115, 34, 58, 91, 123, 34, 97, 114, 99, 104, 105, 118, 101, 34, 58, 34, 120, 34] ++ [125, 93, 44, 34, 98, 117, 102, 102, 101, 114, 34, 58, 48, 44, 34, 109, 97, 120, 122, 111, 111, 109, 34, 58, 51, 44, 34, 108, 105, 109, 105, 116, 34, 58, 48, 125, 93] := by decide +kernel
theorem zqG : jb liveJ ≤ 1000000 := by decide +kernel
theorem zma : textC [liveC] = [91, 123, 34, 105, 100, 34, 58, 34, 97, 34, 44, 34, 115, 111, 117, 114, 99, 101, 115, 34, 58, 91, 123, 34, 97, 114, 99, 104, 105, 118, 101, 34, 58, 34, 120, 34] ++ [125, 93, 44, 34, 98, 117, 102, 102, 101, 114, 34, 58, 48, 44, 34, 109, 97, 120, 122, 111, 111, 109, 34, 58, 51, 44, 34, 108, 105, 109, 105, 116, 34, 58, 48, 125, 93] := by
  unfold textC
  rw [if_pos zqF, zgv, if_pos zlF, zoE]
theorem zlO : Weak (.sl 9 1 (chunk 9 [.s [120], .nilS, .s [], .s [], .s [], .nilS, .nilS, .b false, .b false])) (.sl 9 1 (srcF [liveS])) := .sl _ _ _ _ (fun i hi => match i, hi with
    | 0, _ => ⟨rfl, rfl⟩) fun i j hi hj => match i, j, hi, hj with
    | 0, 0, _, _ => .refl _
    | 0, 1, _, _ => .nil 2 _
    | 0, 2, _, _ => .refl _
    | 0, 3, _, _ => .refl _
    | 0, 4, _, _ => .refl _
    | 0, 5, _, _ => .nil 1 _
    | 0, 6, _, _ => .nil 1 _
    | 0, 7, _, _ => .refl _
    | 0, 8, _, _ => .refl _
theorem zlM : Weak (.sl 5 1 (chunk 5 [.s [97], .sl 9 1 (chunk 9 [.s [120], .nilS, .s [], .s [], .s [], .nilS, .nilS, .b false, .b false]), .i .i64 0, .i .i64 3, .i .i64 0])) (.sl 5 1 (cmpF [liveC])) := .sl _ _ _ _ (fun i hi => match i, hi with
    | 0, _ => ⟨rfl, rfl⟩) fun i j hi hj => match i, j, hi, hj with
    | 0, 0, _, _ => .refl _
    | 0, 1, _, _ => zlO
    | 0, 2, _, _ => .refl _
    | 0, 3, _, _ => .refl _
    | 0, 4, _, _ => .refl _
theorem zfb {α : Type} {p : α → Prop} {a d : α} (h1 : p a) (h2 : p d) (i : Nat) : p ([a].getD i d) := match i with
  | 0 => h1
  | _ + 1 => h2
theorem fitS0 : fitS s0R := ⟨Nat.zero_le _, Nat.zero_le _, Nat.zero_le _⟩
theorem bigT0 : bigT [] := Nat.zero_le _
theorem getNil {α : Type} {d : α} (i : Nat) : ([] : List α).getD i d = d := by simp [List.getD_eq_getElem?_getD]
theorem bigS0 : bigS s0R := ⟨bigT0, bigT0, bigT0, bigT0, fun i => by show bigT (([] : List Txt).getD i []); rw [getNil]; exact bigT0, fun i => by show bigT (([] : List Txt).getD i []); rw [getNil]; exact bigT0, fun i => by show bigT (([] : List Fld).getD i ([], [])).1 ∧ bigT (([] : List Fld).getD i ([], [])).2; rw [getNil]; exact ⟨bigT0, bigT0⟩⟩
theorem fitC0 : fitC c0R := ⟨Nat.zero_le _, fun i => by show fitS (([] : List SrcR).getD i s0R); rw [getNil]; exact fitS0⟩
theorem bigC0 : bigC c0R := ⟨bigT0, fun i => by show bigS (([] : List SrcR).getD i s0R); rw [getNil]; exact bigS0⟩
theorem zpM : fitL [liveC] := ⟨by decide, zfb ⟨by decide, zfb ⟨by decide, by decide, by decide⟩ fitS0⟩ fitC0⟩
theorem zpO : ∀ i, bigC ([liveC].getD i c0R) := zfb ⟨(by show List.length [97] ≤ 1048576; decide), zfb ⟨(by show List.length [120] ≤ 1048576; decide), bigT0, bigT0, bigT0, fun i => by show bigT (([] : List Txt).getD i []); rw [getNil]; exact bigT0, fun i => by show bigT (([] : List Txt).getD i []); rw [getNil]; exact bigT0, fun i => by show bigT (([] : List Fld).getD i ([], [])).1 ∧ bigT (([] : List Fld).getD i ([], [])).2; rw [getNil]; exact ⟨bigT0, bigT0⟩⟩ bigS0⟩ bigC0
set_option maxRecDepth 100000 in
set_option maxHeartbeats 2000000 in
theorem znG : Ctr Tryz.prog 7 [] (.b true) := by
  have c := (zoA [liveC] zpM zpO (by rw [zgv]; exact zqG)).weak1 zlM
  rw [zma] at c
  refine zay Tryz.func7 rfl Tryz.ntmps7 Tryz.results7 rfl rfl fun X hL hX => ?_
  repeat' (first |refine zah (f := 16) rfl rfl Tryz.call16 rfl c ?_|with_reducible (first |refine zag ?_|refine zaa ?_|refine zaf ?_|refine zad ?_|refine zaj ?_)|refine zab rfl rfl True.intro ?_|((first |refine zao rfl rfl ?_ ?_);focus (first |((repeat' refine And.intro ?_ ?_)<;>omega)|((repeat' refine And.intro ?_ ?_)<;>first |omega|rfl)))|refine zaw rfl ?_|fail)
  all_goals rfl

theorem zbR {α : Type} {p : α → Prop} {d : α} {l : List α} (h : ∀ a ∈ l, p a) (hd : p d) (i : Nat) : p (l.getD i d) := by
  by_cases hi : i < l.length
  · rw [show l.getD i d = l[i] by simp [List.getD_eq_getElem?_getD, hi]]
    exact h _ (List.getElem_mem hi)
  · rw [List.getD_eq_getElem?_getD, List.getElem?_eq_none (by omega)]
    exact hd
theorem zcd {x : J} (h : goodJ x) : ∀ y ∈ x.list, goodJ y := fun y hy => by
  obtain ⟨i, hi, rfl⟩ := List.mem_iff_getElem.1 hy
  have := zeA h hi
  rwa [show x.list.getD i j0 = x.list[i] by simp [List.getD_eq_getElem?_getD, hi]] at this
theorem zct {x : J} (h : goodJ x) : x.list.length ≤ 1000000 := by
  have h1 := zbZ x.list
  have h2 := zeq x
  have h3 := h.1
  omega
theorem zbX {x : J} (h : goodJ x) : bigT x.text := Nat.le_trans (zbS h.2).2.1.1 (by decide)
theorem zkk (l : List J) : (strsJ l).1.length ≤ l.length := by
  unfold strsJ
  split
  · simp
  · exact Nat.zero_le _
theorem zfa {l : List J} (h : ∀ y ∈ l, goodJ y) : ∀ t ∈ (strsJ l).1, bigT t := by
  unfold strsJ
  split
  · intro t ht
    obtain ⟨y, hy, rfl⟩ := List.mem_map.1 ht
    exact zbX (h y hy)
  · intro t ht
    cases ht
theorem ziK : ∀ l : List J, (laysP l).1.length ≤ l.length
  | [] => Nat.le_refl _
  | y :: r => by
    have := ziK r
    rw [laysP]
    cases layR y with
    | none => exact Nat.zero_le _
    | some p =>
      show (p :: (laysP r).1).length ≤ _
      simp only [List.length_cons]
      omega
theorem zoR {y : J} (h : goodJ y) {p : Fld} (hp : layR y = some p) : bigT p.1 ∧ bigT p.2 := by
  unfold layR at hp
  split at hp
  · cases hp
    exact ⟨zbR (zfa (zcd h)) bigT0 0, zbR (zfa (zcd h)) bigT0 1⟩
  · cases hp
theorem zil : ∀ {l : List J}, (∀ y ∈ l, goodJ y) → ∀ p ∈ (laysP l).1, bigT p.1 ∧ bigT p.2
  | [], _, _, h => by cases h
  | y :: r, h, p, hp => by
    rw [laysP] at hp
    cases hq : layR y with
    | none =>
      rw [hq] at hp
      cases hp
    | some q =>
      rw [hq] at hp
      rcases List.mem_cons.1 hp with rfl | hp
      · exact zoR (h y List.mem_cons_self) hq
      · exact zil (fun z hz => h z (List.mem_cons_of_mem _ hz)) p hp
theorem zoM {x : J} (h : goodJ x) : fitS (rdSrc x).1 ∧ bigS (rdSrc x).1 := by
  have g := fun k kd => zeI h k kd
  have l1 := ziK (gK x kLayers 4).list
  have l2 := zct (g kLayers 4)
  have l3 := zkk (gK x kOnly 4).list
  have l4 := zct (g kOnly 4)
  have l5 := zkk (gK x kNot 4).list
  have l6 := zct (g kNot 4)
  have b1 := zil (zcd (g kLayers 4))
  have b2 := zfa (zcd (g kOnly 4))
  have b3 := zfa (zcd (g kNot 4))
  unfold rdSrc
  split
  · exact ⟨⟨Nat.le_trans l1 l2, Nat.le_trans l3 l4, Nat.le_trans l5 l6⟩, zbX (g kArchive 3), zbX (g kCsv 3), zbX (g kKey 3), zbX (g kAttr 3), zbR b2 bigT0, zbR b3 bigT0, zbR (p := fun p : Fld => bigT p.1 ∧ bigT p.2) b1 ⟨bigT0, bigT0⟩⟩
  · exact ⟨⟨Nat.le_trans l1 l2, Nat.zero_le _, Nat.zero_le _⟩, zbX (g kArchive 3), zbX (g kCsv 3), bigT0, bigT0, fun i => by show bigT (([] : List Txt).getD i []); rw [getNil]; exact bigT0, fun i => by show bigT (([] : List Txt).getD i []); rw [getNil]; exact bigT0, zbR (p := fun p : Fld => bigT p.1 ∧ bigT p.2) b1 ⟨bigT0, bigT0⟩⟩
theorem zif : ∀ l : List J, (srcsP l).1.length ≤ l.length
  | [] => Nat.le_refl _
  | y :: r => by
    have := zif r
    rw [srcsP]
    split
    · show ((rdSrc y).1 :: (srcsP r).1).length ≤ _
      simp only [List.length_cons]
      omega
    · exact Nat.zero_le _
theorem ziU : ∀ {l : List J}, (∀ y ∈ l, goodJ y) → ∀ s ∈ (srcsP l).1, fitS s ∧ bigS s
  | [], _, _, h => by cases h
  | y :: r, h, s, hs => by
    rw [srcsP] at hs
    split at hs
    · rcases List.mem_cons.1 hs with rfl | hs
      · exact zoM (h y List.mem_cons_self)
      · exact ziU (fun z hz => h z (List.mem_cons_of_mem _ hz)) s hs
    · cases hs
theorem zoh {x : J} (h : goodJ x) : fitC (rdCmp x).1 ∧ bigC (rdCmp x).1 := by
  have g := fun k kd => zeI h k kd
  have l1 := zif (gK x kSources 4).list
  have l2 := zct (g kSources 4)
  have f := ziU (zcd (g kSources 4))
  have f2 := zbR (p := fun s => fitS s ∧ bigS s) f ⟨fitS0, bigS0⟩
  exact ⟨⟨Nat.le_trans (Nat.le_trans l1 l2) (by decide), fun i => (f2 i).1⟩, zbX (g kId 3), fun i => (f2 i).2⟩
def cmpsP : List J → List CmpR × Bool
  | [] => ([], true)
  | y :: r => if (rdCmp y).2 = true then ((rdCmp y).1 :: (cmpsP r).1, (cmpsP r).2) else ([], false)
theorem zkG {l : List J} {i : Nat} (h : i < l.length) : cmpsP (l.drop i) = if (rdCmp (l.getD i j0)).2 = true then ((rdCmp (l.getD i j0)).1 :: (cmpsP (l.drop (i + 1))).1, (cmpsP (l.drop (i + 1))).2) else ([], false) := by
  rw [List.drop_eq_getElem_cons h]
  rw [show l.getD i j0 = l[i] by simp [List.getD_eq_getElem?_getD, h]]
  rfl
theorem zio : ∀ l : List J, (cmpsP l).1.length ≤ l.length
  | [] => Nat.le_refl _
  | y :: r => by
    have := zio r
    rw [cmpsP]
    split
    · show ((rdCmp y).1 :: (cmpsP r).1).length ≤ _
      simp only [List.length_cons]
      omega
    · exact Nat.zero_le _
theorem zec : ∀ {l : List J}, (∀ y ∈ l, goodJ y) → ∀ s ∈ (cmpsP l).1, fitC s ∧ bigC s
  | [], _, _, h => by cases h
  | y :: r, h, s, hs => by
    rw [cmpsP] at hs
    split at hs
    · rcases List.mem_cons.1 hs with rfl | hs
      · exact zoh (h y List.mem_cons_self)
      · exact zec (fun z hz => h z (List.mem_cons_of_mem _ hz)) s hs
    · cases hs
def confV (x : J) : List CmpR × Int := if ¬ x.kind = 4 then ([], 3) else if (cmpsP x.list).2 = true ∧ okL (cmpsP x.list).1 then ((cmpsP x.list).1, 0) else ([], 3)
def confP (s : Txt) : List CmpR × Int := if ¬ (jparse s).2.2 = 0 then ([], (jparse s).2.2) else confV (jparse s).1
def confPD (r : List CmpR × Int) : D := .tu [.sl 5 r.1.length (cmpF r.1), .i .i64 r.2]
theorem zbl (e : Int) : Weak (.tu [.nilS, .i .i64 e]) (confPD ([], e)) := .tu2 (.nil 5 _) (.refl _)
theorem zkF (l : List CmpR) (p : CmpR) (gf : Nat → List D) (hg : gf 0 = cmpP p) : catF l.length (cmpF l) 1 gf = cmpF (l ++ [p]) := by
  funext j
  unfold catF cmpF
  by_cases h : j < l.length
  · rw [if_pos h]
    simp [List.getD_eq_getElem?_getD, List.getElem?_append_left h]
  · rw [if_neg h]
    by_cases h2 : j < l.length + 1
    · obtain rfl : j = l.length := by omega
      rw [if_pos h2, Nat.sub_self, hg]
      simp [List.getD_eq_getElem?_getD]
    · rw [if_neg h2]
      simp only [List.getD_eq_getElem?_getD]
      rw [List.getElem?_eq_none (show l.length ≤ j by omega), List.getElem?_eq_none (show (l ++ [p]).length ≤ j by simp; omega)]
mutual
theorem zkW {B C : Nat} (hBC : B ≤ C) : ∀ x : J, okK B x → okK C x
  | .mk k y n d e t l ks, h => by
    rw [zkr] at h ⊢
    exact ⟨h.1, ⟨Nat.le_trans h.2.1.1 hBC, h.2.1.2⟩, ⟨h.2.2.1.1, fun q hq => Nat.le_trans (h.2.2.1.2 q hq) hBC⟩, ziy hBC l h.2.2.2⟩
theorem ziy {B C : Nat} (hBC : B ≤ C) : ∀ l : List J, okKL B l → okKL C l
  | [], _ => by
    rw [okKL]
    trivial
  | x :: r, h => by
    rw [okKL] at h ⊢
    exact ⟨zkW hBC x h.1, ziy hBC r h.2⟩
end
theorem zeP (s : Txt) (h : s.length ≤ 200000) : goodJ (jparse s).1 := ⟨by have := zpR s; omega, zkW (by omega) _ (zpn s)⟩
theorem cparD (r : J × Nat × Int) : parD r = .tu [.ag (jP r.1), .i .i64 r.2.1, .i .i64 r.2.2] := by
  unfold parD
  rw [zla]
set_option maxRecDepth 100000 in
set_option maxHeartbeats 16000000 in
theorem zmJ (s : Txt) (hs : s.length ≤ 200000) : Ctr Tryz.prog 13 [.s s] (confPD (confP s)) := by
  have hg := zeP s hs
  have c := zlE s (by omega)
  unfold confP
  rw [cparD] at c
  replace c := c.weakS (.tu3 (zme _) (.refl _) (.refl _))
  generalize jparse s = R at c hg ⊢
  obtain ⟨x, p, e⟩ := R
  replace c : Ctr Tryz.prog 25 [.s s] (.tu [.ag (jQ x), .i .i64 p, .i .i64 e]) := c
  dsimp only at hg ⊢
  by_cases he : e = 0
  rotate_left
  · rw [if_pos he]
    refine zay Tryz.func13 rfl Tryz.ntmps13 Tryz.results13 rfl rfl fun X hL hX => ?_
    repeat' (first |refine zah (f := 25) rfl rfl Tryz.call25 rfl c ?_|with_reducible (first |refine zag ?_|refine zaa ?_|refine zaf ?_|refine zad ?_|refine zaj ?_|refine zae ?_|refine zal ?_|refine zap ?_)|refine zab rfl rfl True.intro ?_|((first |refine zat rfl ?_ ?_)<;>intro<;>try (first |(exfalso;omega)))|((first |refine zao rfl rfl ?_ ?_|refine zar rfl ?_ ?_);focus (first |((repeat' refine And.intro ?_ ?_)<;>omega)|((repeat' refine And.intro ?_ ?_)<;>first |rfl|exact Nat.le_refl _)))|refine zaB rfl ?_|fail)
    all_goals exact zbl e
  rw [if_neg (fun h => h he)]
  unfold confV
  by_cases hk : x.kind = 4
  rotate_left
  · rw [if_pos hk]
    refine zay Tryz.func13 rfl Tryz.ntmps13 Tryz.results13 rfl rfl fun X hL hX => ?_
    repeat' (first |refine zah (f := 25) rfl rfl Tryz.call25 rfl c ?_|with_reducible (first |refine zag ?_|refine zaa ?_|refine zaf ?_|refine zad ?_|refine zaj ?_|refine zae ?_|refine zal ?_|refine zap ?_)|refine zab rfl rfl True.intro ?_|((first |refine zat rfl ?_ ?_)<;>intro<;>try (first |(exfalso;omega)))|((first |refine zab rfl rfl ?_ ?_|refine zao rfl rfl ?_ ?_|refine zar rfl ?_ ?_);focus (first |exact le_ rfl|((repeat' refine And.intro ?_ ?_)<;>omega)|((repeat' refine And.intro ?_ ?_)<;>first |rfl|exact Nat.le_refl _)))|refine zaB rfl ?_|fail)
    all_goals exact zbl 3
  rw [if_neg (fun h => h hk)]
  have hlen := zct hg
  have hgA : ∀ i, i < x.list.length → goodJ (x.list.getD i j0) := fun i hi => zeA hg hi
  have hfit := zec (zcd hg)
  refine zay Tryz.func13 rfl Tryz.ntmps13 Tryz.results13 rfl (by split <;> rfl) fun X hL hX => ?_
  repeat' (first |refine zah (f := 25) rfl rfl Tryz.call25 rfl c ?_|with_reducible (first |refine zag ?_|refine zaa ?_|refine zaf ?_|refine zad ?_|refine zai ?_|refine zae ?_|refine zaq ?_)|refine zab rfl rfl True.intro ?_|((first |refine zat rfl ?_ ?_)<;>intro<;>try (first |(exfalso;omega)))|((first |refine zab rfl rfl ?_ ?_|refine zao rfl rfl ?_ ?_|refine zar rfl ?_ ?_);focus (first |exact le_ rfl|((repeat' refine And.intro ?_ ?_)<;>omega)|((repeat' refine And.intro ?_ ?_)<;>first |rfl|exact Nat.le_refl _)))|fail)
  clear c
  generalize x.list = L at *
  refine T.adopt 7 107 27 5 (cmpF []) rfl rfl ?_
  refine T.loop hL (fun z : Nat × List CmpR => [(7, .gs 107 5 z.2.length (cmpF z.2)), (27, .sl 8 L.length (jG L)), (28, .i .i64 L.length), (29, .i .i64 z.1)]) (fun z => [(107, .row 27 5 z.2.length)])
    (fun z => z.1 ≤ L.length ∧ z.2.length = z.1 ∧ cmpsP L = (z.2 ++ (cmpsP (L.drop z.1)).1, (cmpsP (L.drop z.1)).2)) (fun z => L.length - z.1) (0, []) ⟨Nat.zero_le _, rfl, by simp⟩
    ⟨⟨rfl, rfl, rfl, rfl, trivial⟩, ⟨rfl, trivial⟩, rfl, by rw [hX]; simp⟩ ?_
  rintro ⟨i, acc⟩ ⟨g1, g2, g3⟩
  dsimp only at g1 g2 g3 ⊢
  have hnat : (i : Int).toNat = i := Int.toNat_natCast i
  by_cases hil : i < L.length
  · have hil' : (i : Int) < L.length := by omega
    rw [zkG hil] at g3
    have cS := zoo (L.getD (i : Int).toNat j0) (hgA _ (by omega))
    have hlr : rdCmp (L.getD i j0) = rdCmp (L.getD (i : Int).toNat j0) := by rw [hnat]
    rw [hlr] at g3
    clear hlr
    generalize rdCmp (L.getD (i : Int).toNat j0) = r at cS g3
    obtain ⟨q, ok⟩ := r
    replace cS : Ctr Tryz.prog 26 [.ag (jP (L.getD (i : Int).toNat j0))] (.tu [.ag (cmpP q), .b ok]) := cS
    cases ok with
    | false =>
      rw [if_neg (fun h => by cases h)] at g3
      replace g3 : cmpsP L = (acc, false) := g3.trans (by simp)
      rw [g3, if_neg (fun h => by cases h.1)]
      repeat' (first |refine zah (f := 26) rfl rfl Tryz.call26 rfl cS ?_|with_reducible (first |refine zag ?_|refine zaa ?_|refine zaf ?_|refine zad ?_|refine zaj ?_|refine zai ?_|refine zae ?_|refine zal ?_|refine zap ?_)|refine zab rfl rfl True.intro ?_|refine zas rfl ?_|((first |refine zac rfl ?_ ?_)<;>intro<;>try (first |(exfalso;omega)))|((first |refine zab rfl rfl ?_ ?_|refine zao rfl rfl ?_ ?_|refine zar rfl ?_ ?_);focus (first |omega|exact le_ rfl|((repeat' refine And.intro ?_ ?_)<;>omega)|((repeat' refine And.intro ?_ ?_)<;>first |rfl|exact Nat.le_refl _)))|refine zaB rfl ?_|fail)
      all_goals exact zbl 3
    | true =>
      rw [if_pos rfl] at g3
      replace g3 : cmpsP L = ((acc ++ [q]) ++ (cmpsP (L.drop (i + 1))).1, (cmpsP (L.drop (i + 1))).2) := g3.trans (by simp)
      have e := zkF acc q (chunk 5 (cmpP q)) rfl
      have g4 : (acc ++ [q]).length = acc.length + 1 := by simp
      repeat' (first |refine zah (f := 26) rfl rfl Tryz.call26 rfl cS ?_|with_reducible (first |refine zag ?_|refine zaa ?_|refine zaf ?_|refine zad ?_|refine zai ?_|refine zae ?_|refine zaq ?_)|refine zab rfl rfl True.intro ?_|refine zak rfl ?_|((first |refine zac rfl ?_ ?_)<;>intro<;>try (first |(exfalso;omega)))|((first |refine zab rfl rfl ?_ ?_|refine zao rfl rfl ?_ ?_|refine zar rfl ?_ ?_);focus (first |omega|exact le_ rfl|((repeat' refine And.intro ?_ ?_)<;>omega)|((repeat' refine And.intro ?_ ?_)<;>first |omega|rfl|exact Nat.le_refl _)))|fail)
      all_goals exact ⟨(i + 1, acc ++ [q]), ⟨by dsimp only; omega, by dsimp only; omega, g3⟩, by dsimp only; omega, ⟨by rw [g4, ← e]; rfl, rfl, rfl, rfl, trivial⟩, ⟨by rw [g4]; rfl, trivial⟩, rfl, by rw [hX]; simp⟩
  have hil' : ¬ (i : Int) < L.length := by omega
  have g5 : cmpsP L = (acc, true) := by
    rw [g3, List.drop_eq_nil_of_le (by omega)]
    show (acc ++ [], true) = _
    rw [List.append_nil]
  rw [g5] at hfit ⊢
  have hf2 := zbR (p := fun s => fitC s ∧ bigC s) hfit ⟨fitC0, bigC0⟩
  have cR := zgM acc ⟨by omega, fun i => (hf2 i).1⟩ (fun i => (hf2 i).2)
  clear g3 g5 hfit hf2
  by_cases hok : okL acc
  · rw [decide_eq_true hok] at cR
    rw [if_pos ⟨rfl, hok⟩]
    repeat' (first |refine zah (f := 17) rfl rfl Tryz.call17 rfl cR ?_|with_reducible (first |refine zag ?_|refine zaa ?_|refine zaf ?_|refine zad ?_|refine zaj ?_|refine zai ?_|refine zaz ?_|refine zaA ?_)|refine zab rfl rfl True.intro ?_|refine zak rfl ?_|((first |refine zac rfl ?_ ?_)<;>intro<;>try (first |(exfalso;omega)))|refine zaJ rfl ?_|refine zaB rfl ?_|fail)
    all_goals exact .of_eq rfl
  · rw [decide_eq_false hok] at cR
    rw [if_neg (fun h => hok h.2)]
    repeat' (first |refine zah (f := 17) rfl rfl Tryz.call17 rfl cR ?_|with_reducible (first |refine zag ?_|refine zaa ?_|refine zaf ?_|refine zad ?_|refine zaj ?_|refine zaz ?_|refine zaA ?_|refine zal ?_)|refine zab rfl rfl True.intro ?_|refine zas rfl ?_|((first |refine zac rfl ?_ ?_)<;>intro<;>try (first |(exfalso;omega)))|refine zaJ rfl ?_|refine zaB rfl ?_|fail)
    all_goals exact zbl 3

def onlyB (x : J) (ns : List Txt) : Bool := x.keys.all (fun k => decide (k ∈ ns)) && decide (x.kind = 5)
theorem zpq {x : J} {ns : List Txt} {i : Nat} (h : i < x.keys.length) (hm : x.keys.getD i [] ∉ ns) : onlyB x ns = false := by
  unfold onlyB
  have : x.keys.all (fun k => decide (k ∈ ns)) = false := by
    rw [List.all_eq_false]
    refine ⟨x.keys.getD i [], ?_, by simpa using hm⟩
    rw [show x.keys.getD i [] = x.keys[i] by simp [List.getD_eq_getElem?_getD, h]]
    exact List.getElem_mem h
  rw [this, Bool.false_and]
theorem zpP {x : J} {ns : List Txt} (h : ∀ i, i < x.keys.length → x.keys.getD i [] ∈ ns) : onlyB x ns = decide (x.kind = 5) := by
  unfold onlyB
  have : x.keys.all (fun k => decide (k ∈ ns)) = true := by
    rw [List.all_eq_true]
    intro k hk
    obtain ⟨i, hi, rfl⟩ := List.mem_iff_getElem.1 hk
    have := h i hi
    rw [show x.keys.getD i [] = x.keys[i] by simp [List.getD_eq_getElem?_getD, hi]] at this
    exact decide_eq_true this
  rw [this, Bool.true_and]
theorem zpe {ns : List Txt} {k : Nat} {t : Txt} (hk : k < ns.length) : t ∈ ns.take (k + 1) ↔ t ∈ ns.take k ∨ ns.getD k [] = t := by
  rw [List.take_add_one, List.mem_append]
  simp [List.getD_eq_getElem?_getD, hk, eq_comm]
set_option maxRecDepth 100000 in
set_option maxHeartbeats 4000000 in
theorem zhV (x : J) (ns : List Txt) (hw : jw x ≤ 4194304) (hn : ns.length ≤ 100) : Ctr Tryz.prog 29 [.ag (jP x), .sl 1 ns.length (txF ns)] (.b (onlyB x ns)) := by
  have hk : x.keys.length ≤ 4194304 := by
    have := zeq x
    omega
  refine zay Tryz.func29 rfl Tryz.ntmps29 Tryz.results29 rfl rfl fun X hL hX => ?_
  repeat' (first |with_reducible (first |refine zag ?_|refine zaa ?_|refine zaf ?_|refine zad ?_|refine zae ?_)|refine zab rfl rfl True.intro ?_|((first |refine zao rfl rfl ?_ ?_);focus (first |((repeat' refine And.intro ?_ ?_)<;>omega)|((repeat' refine And.intro ?_ ?_)<;>first |rfl)))|fail)
  refine T.loop hL (fun i : Nat => [(1, .sl 1 ns.length (txF ns)), (2, .pv 2 0), (5, .i .i64 i)]) (fun _ => [(2, .var (jP x))])
    (fun i => i ≤ x.keys.length ∧ ∀ j, j < i → x.keys.getD j [] ∈ ns) (fun i => x.keys.length - i) 0 ⟨Nat.zero_le _, fun j h => absurd h (Nat.not_lt_zero _)⟩
    ⟨⟨rfl, rfl, rfl, trivial⟩, ⟨rfl, trivial⟩, rfl, by rw [hX]; simp⟩ ?_
  rintro i ⟨g1, g2⟩
  try dsimp only at g1 g2 ⊢
  have hnat : (i : Int).toNat = i := Int.toNat_natCast i
  by_cases hil : i < x.keys.length
  rotate_left
  · have hil' : ¬ (i : Int) < x.keys.length := by omega
    rw [zpP (fun j hj => g2 j (by omega))]
    clear g2
    repeat' (first |with_reducible (first |refine zag ?_|refine zaa ?_|refine zaf ?_|refine zad ?_|refine zaj ?_|refine zaz ?_|refine zaA ?_)|refine zab rfl rfl True.intro ?_|((first |refine zac rfl ?_ ?_)<;>intro<;>try (first |contradiction))|((first |refine zab rfl rfl ?_ ?_);focus (first |exact le_ rfl|((repeat' refine And.intro ?_ ?_)<;>omega)))|refine zaJ rfl ?_|refine zaw rfl ?_|fail)
    all_goals rfl
  have hil' : (i : Int) < x.keys.length := by omega
  repeat' (first |with_reducible (first |refine zag ?_|refine zaa ?_|refine zaf ?_|refine zad ?_|refine zai ?_|refine zae ?_)|refine zab rfl rfl True.intro ?_|((first |refine zac rfl ?_ ?_)<;>intro<;>try (first |contradiction))|((first |refine zab rfl rfl ?_ ?_);focus (first |exact le_ rfl|((repeat' refine And.intro ?_ ?_)<;>omega)))|fail)
  refine T.loop hL (fun k : Nat => [(1, .sl 1 ns.length (txF ns)), (2, .pv 2 0), (5, .i .i64 i), (6, .b (decide (x.keys.getD (i : Int).toNat [] ∈ ns.take k))), (7, .i .i64 k)]) (fun _ => [(2, .var (jP x))])
    (fun k => k ≤ ns.length) (fun k => ns.length - k) 0 (Nat.zero_le _)
    ⟨⟨rfl, rfl, rfl, by rw [List.take_zero, decide_eq_false (List.not_mem_nil)]; rfl, rfl, trivial⟩, ⟨rfl, trivial⟩, rfl, by rw [hX]; simp⟩ ?_
  rintro k u1
  try dsimp only at u1 ⊢
  have knat : (k : Int).toNat = k := Int.toNat_natCast k
  by_cases hkl : k < ns.length
  · have hkl' : (k : Int) < ns.length := by omega
    have hx := zpe (t := x.keys.getD (i : Int).toNat []) hkl
    clear g2
    by_cases hm : x.keys.getD (i : Int).toNat [] ∈ ns.take k
    · have hm2 := hx.2 (.inl hm)
      rw [decide_eq_true hm]
      repeat' (first |with_reducible (first |refine zag ?_|refine zaa ?_|refine zaf ?_|refine zad ?_|refine zai ?_|refine zae ?_|refine zaq ?_|refine zaD ?_)|refine zab rfl rfl True.intro ?_|refine zau rfl rfl rfl ?_|((first |refine zac rfl ?_ ?_)<;>intro<;>try (first |contradiction))|((first |refine zab rfl rfl ?_ ?_);focus (first |omega|((repeat' refine And.intro ?_ ?_)<;>omega)))|with_reducible refine ⟨by kernel_rfl, ?_⟩|fail)
      all_goals exact ⟨k + 1, by omega, by omega, ⟨rfl, rfl, rfl, by rw [decide_eq_true hm2]; rfl, rfl, trivial⟩, ⟨rfl, trivial⟩, rfl, by rw [hX]; simp⟩
    · rw [decide_eq_false hm]
      by_cases he : ns.getD k [] = x.keys.getD (i : Int).toNat []
      · have hm2 := hx.2 (.inr he)
        have he' : (ns.getD (k : Int).toNat [] == x.keys.getD (i : Int).toNat []) = true := by rw [knat, he]; exact beq_self_eq_true _
        repeat' (first |with_reducible (first |refine zag ?_|refine zaa ?_|refine zaf ?_|refine zad ?_|refine zai ?_|refine zae ?_|refine zaq ?_|refine zaD ?_)|refine zab rfl rfl True.intro ?_|refine zam rfl rfl rfl rfl True.intro ?_|((first |refine zac rfl ?_ ?_)<;>intro<;>try (first |contradiction))|((first |refine zab rfl rfl ?_ ?_|refine zam rfl rfl rfl rfl ?_ ?_);focus (first |omega|exact le_ rfl|((repeat' refine And.intro ?_ ?_)<;>omega)))|with_reducible refine ⟨by kernel_rfl, ?_⟩|fail)
        all_goals exact ⟨k + 1, by omega, by omega, ⟨rfl, rfl, rfl, by rw [decide_eq_true hm2, ← he']; rfl, rfl, trivial⟩, ⟨rfl, trivial⟩, rfl, by rw [hX]; simp⟩
      · have hm2 : x.keys.getD (i : Int).toNat [] ∉ ns.take (k + 1) := fun q => (hx.1 q).elim hm he
        have he' : (ns.getD (k : Int).toNat [] == x.keys.getD (i : Int).toNat []) = false := by rw [knat]; exact beq_eq_false_iff_ne.2 he
        repeat' (first |with_reducible (first |refine zag ?_|refine zaa ?_|refine zaf ?_|refine zad ?_|refine zai ?_|refine zae ?_|refine zaq ?_|refine zaD ?_)|refine zab rfl rfl True.intro ?_|refine zam rfl rfl rfl rfl True.intro ?_|((first |refine zac rfl ?_ ?_)<;>intro<;>try (first |contradiction))|((first |refine zab rfl rfl ?_ ?_|refine zam rfl rfl rfl rfl ?_ ?_);focus (first |omega|exact le_ rfl|((repeat' refine And.intro ?_ ?_)<;>omega)))|with_reducible refine ⟨by kernel_rfl, ?_⟩|fail)
        all_goals exact ⟨k + 1, by omega, by omega, ⟨rfl, rfl, rfl, by rw [decide_eq_false hm2, ← he']; rfl, rfl, trivial⟩, ⟨rfl, trivial⟩, rfl, by rw [hX]; simp⟩
  have hkl' : ¬ (k : Int) < ns.length := by omega
  have ea : ns.take k = ns := List.take_of_length_le (by omega)
  rw [ea]
  by_cases hm : x.keys.getD (i : Int).toNat [] ∈ ns
  · rw [decide_eq_true hm]
    have g3 : ∀ j, j < i + 1 → x.keys.getD j [] ∈ ns := fun j hj => by
      by_cases q : j = i
      · rw [q]
        rwa [hnat] at hm
      · exact g2 j (by omega)
    clear g2
    repeat' (first |with_reducible (first |refine zag ?_|refine zaa ?_|refine zaf ?_|refine zad ?_|refine zai ?_|refine zaz ?_|refine zaq ?_|refine zaA ?_)|refine zab rfl rfl True.intro ?_|refine zak rfl ?_|((first |refine zac rfl ?_ ?_)<;>intro<;>try (first |contradiction))|((first |refine zab rfl rfl ?_ ?_);focus (first |omega|((repeat' refine And.intro ?_ ?_)<;>omega)))|refine zaJ rfl ?_|fail)
    all_goals exact ⟨i + 1, ⟨by omega, g3⟩, by omega, ⟨rfl, rfl, rfl, trivial⟩, ⟨rfl, trivial⟩, rfl, by rw [hX]; simp⟩
  · rw [decide_eq_false hm, zpq hil (by rwa [hnat] at hm)]
    clear g2
    repeat' (first |with_reducible (first |refine zag ?_|refine zaa ?_|refine zaf ?_|refine zad ?_|refine zaj ?_|refine zaz ?_|refine zaA ?_|refine zal ?_|refine zap ?_)|refine zab rfl rfl True.intro ?_|refine zas rfl ?_|((first |refine zac rfl ?_ ?_)<;>intro<;>try (first |contradiction))|refine zaJ rfl ?_|refine zaw rfl ?_|fail)
    all_goals rfl
def prB (x : J) (k : Txt) (kd : Int) (must : Bool) : Bool := if (getJ x k).2 = true then decide ((getJ x k).1.kind = kd) else !must
theorem zhW {x : J} {k : Txt} (h : (getJ x k).2 = false) : (getJ x k).1 = j0 := by
  unfold getJ at h ⊢
  split
  · rename_i q
    rw [if_pos q] at h
    cases h
  · rfl
set_option maxRecDepth 100000 in
set_option maxHeartbeats 4000000 in
theorem zbh (x : J) (k : Txt) (kd : Int) (must : Bool) (hw : jw x ≤ 4194304) : Ctr Tryz.prog 28 [.ag (jP x), .s k, .i .i64 kd, .b must] (.tu [.ag (jP (getJ x k).1), .b (prB x k kd must)]) := by
  have c := znP x k hw
  have h0 := @zhW x k
  unfold prB
  generalize getJ x k = r at c h0 ⊢
  obtain ⟨y, ok⟩ := r
  replace c : Ctr Tryz.prog 58 [.ag (jP x), .s k] (.tu [.ag (jP y), .b ok]) := c
  dsimp only at h0 ⊢
  cases ok with
  | true =>
    rw [if_pos rfl]
    refine zay Tryz.func28 rfl Tryz.ntmps28 Tryz.results28 rfl rfl fun X hL hX => ?_
    repeat' (first |refine zah (f := 58) rfl rfl Tryz.call58 rfl c ?_|with_reducible (first |refine zag ?_|refine zaa ?_|refine zaf ?_|refine zad ?_|refine zaj ?_|refine zai ?_|refine zaD ?_)|refine zab rfl rfl True.intro ?_|refine zak rfl ?_|((first |refine zab rfl rfl ?_ ?_|refine zao rfl rfl ?_ ?_|refine zar rfl ?_ ?_);focus (first |exact le_ rfl|((repeat' refine And.intro ?_ ?_)<;>omega)|((repeat' refine And.intro ?_ ?_)<;>first |rfl|exact Nat.le_refl _)))|with_reducible refine ⟨by kernel_rfl, ?_⟩|refine zaB rfl ?_|fail)
    all_goals exact .of_eq rfl
  | false =>
    rw [if_neg Bool.false_ne_true, h0 rfl]
    refine zay Tryz.func28 rfl Tryz.ntmps28 Tryz.results28 rfl rfl fun X hL hX => ?_
    repeat' (first |refine zah (f := 58) rfl rfl Tryz.call58 rfl c ?_|with_reducible (first |refine zag ?_|refine zaa ?_|refine zaf ?_|refine zad ?_|refine zaj ?_|refine zal ?_)|refine zab rfl rfl True.intro ?_|refine zas rfl ?_|((first |refine zab rfl rfl ?_ ?_|refine zao rfl rfl ?_ ?_|refine zar rfl ?_ ?_);focus (first |exact le_ rfl|((repeat' refine And.intro ?_ ?_)<;>omega)|((repeat' refine And.intro ?_ ?_)<;>first |rfl|exact Nat.le_refl _)))|refine zaB rfl ?_|fail)
    all_goals exact .tu2 zhL (.refl _)
set_option maxRecDepth 100000 in
set_option maxHeartbeats 4000000 in
theorem zdS (x : J) (hw : jw x ≤ 4194304) : Ctr Tryz.prog 61 [.ag (jP x)] (strsD (strsJ x.list)) := by
  refine Ctr.weak1 ?_ (zme x)
  have hlen : x.list.length ≤ 4194304 := by
    have := zbZ x.list
    have := zeq x
    omega
  obtain ⟨kd, b, g, d, e, t, l, ks⟩ := x
  show Ctr Tryz.prog 61 [.ag [.i .i64 kd, .b b, .b g, .s d, .i .i64 e, .s t, .sl 8 l.length (jG l), .sl 1 ks.length (txF ks)]] (strsD (strsJ l))
  replace hlen : l.length ≤ 4194304 := hlen
  clear hw
  refine zay Tryz.func61 rfl Tryz.ntmps61 Tryz.results61 rfl rfl fun X hL hX => ?_
  repeat' (first |with_reducible (first |refine zag ?_|refine zaa ?_|refine zaf ?_|refine zad ?_|refine zae ?_)|refine zab rfl rfl True.intro ?_|((first |refine zao rfl rfl ?_ ?_);focus (first |((repeat' refine And.intro ?_ ?_)<;>omega)|((repeat' refine And.intro ?_ ?_)<;>first |rfl)))|fail)
  refine T.adopt 4 104 9 1 (txF []) rfl rfl ?_
  refine T.loop hL (fun i : Nat => [(1, .pv 1 0), (4, .gs 104 1 ((l.take i).map J.text).length (txF ((l.take i).map J.text))), (5, .i .i64 i)]) (fun i => [(1, .var [.i .i64 kd, .b b, .b g, .s d, .i .i64 e, .s t, .sl 8 l.length (jG l), .sl 1 ks.length (txF ks)]), (104, .row 9 1 ((l.take i).map J.text).length)])
    (fun i => i ≤ l.length ∧ ((l.take i).map J.text).length = i ∧ ∀ j, j < i → (l.getD j j0).kind = 3) (fun i => l.length - i) 0 ⟨Nat.zero_le _, by simp, fun j h => absurd h (Nat.not_lt_zero _)⟩
    ⟨⟨rfl, rfl, rfl, trivial⟩, ⟨rfl, rfl, trivial⟩, rfl, by rw [hX]; simp⟩ ?_
  rintro i ⟨g1, g2, g3⟩
  try dsimp only at g1 g2 g3 ⊢
  have hnat : (i : Int).toNat = i := Int.toNat_natCast i
  by_cases hil : i < l.length
  rotate_left
  · have hil' : ¬ (i : Int) < l.length := by omega
    have ea : l.take i = l := List.take_of_length_le (by omega)
    rw [zkl (fun j hj => g3 j (by omega)), ea]
    repeat' (first |with_reducible (first |refine zag ?_|refine zaa ?_|refine zaf ?_|refine zad ?_|refine zaj ?_|refine zaz ?_|refine zaA ?_)|refine zab rfl rfl True.intro ?_|((first |refine zac rfl ?_ ?_)<;>intro<;>try (first |(exfalso;omega)))|((first |refine zab rfl rfl ?_ ?_);focus (first |exact le_ rfl|((repeat' refine And.intro ?_ ?_)<;>omega)))|refine zaJ rfl ?_|refine zaB rfl ?_|fail)
    all_goals exact .of_eq rfl
  have hil' : (i : Int) < l.length := by omega
  by_cases hk : (l.getD i j0).kind = 3
  · have e := zdt (f := J.text) (d := j0) hil
    have e1 := zeL ((l.take i).map J.text) (l.getD (i : Int).toNat j0).text (chunk 1 [.s (l.getD (i : Int).toNat j0).text]) rfl
    have g4 : ((l.take (i + 1)).map J.text).length = ((l.take i).map J.text).length + 1 := by rw [e, List.length_append]; rfl
    have hk' : (l.getD (i : Int).toNat j0).kind = 3 := by rw [hnat]; exact hk
    have g5 : ∀ j, j < i + 1 → (l.getD j j0).kind = 3 := fun j hj => by
      by_cases q : j = i
      · rw [q]; exact hk
      · exact g3 j (by omega)
    rw [hnat] at e1
    clear g3
    repeat' (first |with_reducible (first |refine zag ?_|refine zaa ?_|refine zaf ?_|refine zad ?_|refine zai ?_|refine zae ?_|refine zaq ?_)|refine zab rfl rfl True.intro ?_|((first |refine zac rfl ?_ ?_|refine zat rfl ?_ ?_)<;>intro<;>try (first |(exfalso;omega)))|((first |refine zab rfl rfl ?_ ?_|refine zao rfl rfl ?_ ?_);focus (first |omega|exact le_ rfl|((repeat' refine And.intro ?_ ?_)<;>omega)|((repeat' refine And.intro ?_ ?_)<;>first |omega|rfl)))|fail)
    all_goals exact ⟨i + 1, ⟨by omega, by omega, g5⟩, by omega, ⟨rfl, by rw [g4, e, ← e1]; rfl, rfl, trivial⟩, ⟨rfl, by rw [g4]; rfl, trivial⟩, rfl, by rw [hX]; simp⟩
  · rw [zlc hil hk]
    have hk' : ¬ (l.getD (i : Int).toNat j0).kind = 3 := by rw [hnat]; exact hk
    clear g3
    repeat' (first |with_reducible (first |refine zag ?_|refine zaa ?_|refine zaf ?_|refine zad ?_|refine zaj ?_|refine zai ?_|refine zae ?_|refine zal ?_|refine zap ?_)|refine zab rfl rfl True.intro ?_|((first |refine zac rfl ?_ ?_|refine zat rfl ?_ ?_)<;>intro<;>try (first |(exfalso;omega)))|((first |refine zab rfl rfl ?_ ?_);focus (first |omega|exact le_ rfl|((repeat' refine And.intro ?_ ?_)<;>omega)))|refine zaB rfl ?_|fail)
    all_goals exact zkg

def nsSrc : List Txt := [kArchive, kLayers, kCsv, kKey, kAttr, kOnly, kNot, kTexts, kDrop]
def flP (x : J) : Prop := prB x kArchive 3 true = true ∧ prB x kCsv 3 false = true ∧ prB x kKey 3 false = true ∧ prB x kAttr 3 false = true ∧ prB x kLayers 4 false = true ∧ prB x kOnly 4 false = true ∧ prB x kNot 4 false = true ∧ prB x kTexts 1 false = true ∧ prB x kDrop 1 false = true
instance (x : J) : Decidable (flP x) := by unfold flP; infer_instance
def rsSrc (x : J) (ls : List Fld) : SrcR := ⟨(getJ x kArchive).1.text, ls, (getJ x kCsv).1.text, (getJ x kKey).1.text, (getJ x kAttr).1.text, (strsJ (getJ x kOnly).1.list).1, (strsJ (getJ x kNot).1.list).1, (getJ x kTexts).1.yes, (getJ x kDrop).1.yes⟩
def rsD (x : J) : SrcR × Bool := if onlyB x nsSrc = true ∧ flP x then (if (laysP (getJ x kLayers).1.list).2 = true then (rsSrc x (laysP (getJ x kLayers).1.list).1, (strsJ (getJ x kOnly).1.list).2 && (strsJ (getJ x kNot).1.list).2) else (s0R, false)) else (s0R, false)
theorem zpB (ts : List Txt) (i : Nat) (hi : i < ts.length) : chunk 1 (ts.map D.s) i = txF ts i := by
  unfold chunk txF
  rw [Nat.mul_one, List.drop_eq_getElem_cons (by simpa using hi)]
  simp [List.getD_eq_getElem?_getD, hi]
theorem zqg (ts : List Txt) (n : Nat) (hn : n = ts.length) : Weak (.sl 1 n (chunk 1 (ts.map D.s))) (.sl 1 ts.length (txF ts)) := by
  subst hn
  exact Weak.sl_ofG rfl (fun i hi => zpB ts i hi) fun _ _ => rfl
theorem zfG : Weak (.tu [.ag [.s [], .nilS, .s [], .s [], .s [], .nilS, .nilS, .b false, .b false], .b false]) (srcRD (s0R, false)) := .tu2 (.ag _ _ rfl fun j hj => match j, hj with
  | 0, _ => .refl _
  | 1, _ => .nil 2 _
  | 2, _ => .refl _
  | 3, _ => .refl _
  | 4, _ => .refl _
  | 5, _ => .nil 1 _
  | 6, _ => .nil 1 _
  | 7, _ => .refl _
  | 8, _ => .refl _) (.refl _)
set_option maxRecDepth 100000 in
set_option maxHeartbeats 16000000 in
theorem znn (x : J) (hj : goodJ x) : Ctr Tryz.prog 31 [.ag (jP x)] (srcRD (rsD x)) := by
  have hw : jw x ≤ 4194304 := Nat.le_trans hj.1 (by decide)
  have hgw : ∀ k, jw (getJ x k).1 ≤ 4194304 := fun k => Nat.le_trans (zdu hj k).1 (by decide)
  have c0 := (zhV x nsSrc hw (by decide)).weak2 (.refl _) (zqg nsSrc 9 rfl)
  have cA := zbh x kArchive 3 true hw
  have cC := zbh x kCsv 3 false hw
  have cK := zbh x kKey 3 false hw
  have cT := zbh x kAttr 3 false hw
  have cL := zbh x kLayers 4 false hw
  have cO := zbh x kOnly 4 false hw
  have cN := zbh x kNot 4 false hw
  have cX := zbh x kTexts 1 false hw
  have cD := zbh x kDrop 1 false hw
  replace cL := cL.weakS (.tu2 (zme _) (.refl _))
  have cS1 := zdS (getJ x kOnly).1 (hgw _)
  have cS2 := zdS (getJ x kNot).1 (hgw _)
  have hjl := zeq (getJ x kLayers).1
  have hjk := (zdu hj kLayers).1
  unfold rsD
  refine zay Tryz.func31 rfl Tryz.ntmps31 Tryz.results31 rfl (by repeat' split <;> rfl) fun X hL hX => ?_
  cases ho : onlyB x nsSrc with
  | false =>
    rw [ho] at c0
    rw [if_neg (fun h => by cases h.1)]
    repeat' (first |refine zah (f := 29) rfl rfl Tryz.call29 rfl c0 ?_|with_reducible (first |refine zag ?_|refine zaa ?_|refine zaf ?_|refine zad ?_|refine zaj ?_|refine zal ?_)|refine zab rfl rfl True.intro ?_|refine zas rfl ?_|((first |refine zab rfl rfl ?_ ?_|refine zao rfl rfl ?_ ?_|refine zar rfl ?_ ?_);focus (first |exact le_ rfl|((repeat' refine And.intro ?_ ?_)<;>omega)|((repeat' refine And.intro ?_ ?_)<;>first |omega|rfl|exact Nat.le_refl _)))|refine zaB rfl ?_|fail)
    all_goals exact zfG
  | true =>
  rw [ho] at c0
  by_cases hfl : flP x
  rotate_left
  · rw [if_neg (fun h => hfl h.2)]
    clear cS1 cS2 hjl hjk
    repeat' (first |refine zah (f := 29) rfl rfl Tryz.call29 rfl c0 ?_|refine zah (f := 28) rfl rfl Tryz.call28 rfl cA ?_|refine zah (f := 28) rfl rfl Tryz.call28 rfl cC ?_|refine zah (f := 28) rfl rfl Tryz.call28 rfl cK ?_|refine zah (f := 28) rfl rfl Tryz.call28 rfl cT ?_|refine zah (f := 28) rfl rfl Tryz.call28 rfl cL ?_|refine zah (f := 28) rfl rfl Tryz.call28 rfl cO ?_|refine zah (f := 28) rfl rfl Tryz.call28 rfl cN ?_|refine zah (f := 28) rfl rfl Tryz.call28 rfl cX ?_|refine zah (f := 28) rfl rfl Tryz.call28 rfl cD ?_|with_reducible (first |refine zag ?_|refine zaa ?_|refine zaf ?_|refine zad ?_|refine zaj ?_|refine zai ?_|refine zae ?_|refine zal ?_)|refine zab rfl rfl True.intro ?_|refine zau rfl rfl rfl ?_|refine zam rfl rfl rfl rfl True.intro ?_|refine zas rfl ?_|refine zak rfl ?_|((first |refine zbw rfl ?_ ?_|refine zaF rfl rfl ?_ ?_)<;>intro)|((first |refine zab rfl rfl ?_ ?_|refine zao rfl rfl ?_ ?_|refine zar rfl ?_ ?_);focus (first |exact le_ rfl|((repeat' refine And.intro ?_ ?_)<;>omega)|((repeat' refine And.intro ?_ ?_)<;>first |omega|rfl|exact Nat.le_refl _)))|refine zaB rfl ?_|fail)
    all_goals first
      | exact zfG
      | exact absurd ⟨by assumption, by assumption, by assumption, by assumption, by assumption, by assumption, by assumption, by assumption, by assumption⟩ hfl
      | trace_state
  rw [if_pos ⟨rfl, hfl⟩]
  obtain ⟨f1, f2, f3, f4, f5, f6, f7, f8, f9⟩ := hfl
  rw [f1] at cA
  rw [f2] at cC
  rw [f3] at cK
  rw [f4] at cT
  rw [f5] at cL
  rw [f6] at cO
  rw [f7] at cN
  rw [f8] at cX
  rw [f9] at cD
  repeat' (first |refine T.adoptV 22 1 105 46 2 _ (fldF []) rfl rfl rfl ?_|refine zah (f := 29) rfl rfl Tryz.call29 rfl c0 ?_|refine zah (f := 28) rfl rfl Tryz.call28 rfl cA ?_|refine zah (f := 28) rfl rfl Tryz.call28 rfl cC ?_|refine zah (f := 28) rfl rfl Tryz.call28 rfl cK ?_|refine zah (f := 28) rfl rfl Tryz.call28 rfl cT ?_|refine zah (f := 28) rfl rfl Tryz.call28 rfl cL ?_|refine zah (f := 28) rfl rfl Tryz.call28 rfl cO ?_|refine zah (f := 28) rfl rfl Tryz.call28 rfl cN ?_|refine zah (f := 28) rfl rfl Tryz.call28 rfl cX ?_|refine zah (f := 28) rfl rfl Tryz.call28 rfl cD ?_|with_reducible (first |refine zag ?_|refine zaa ?_|refine zaf ?_|refine zad ?_|refine zai ?_|refine zae ?_)|refine zab rfl rfl True.intro ?_|refine zam rfl rfl rfl rfl True.intro ?_|refine zak rfl ?_|((first |refine zab rfl rfl ?_ ?_|refine zao rfl rfl ?_ ?_|refine zar rfl ?_ ?_);focus (first |exact le_ rfl|((repeat' refine And.intro ?_ ?_)<;>omega)|((repeat' refine And.intro ?_ ?_)<;>first |omega|rfl|exact Nat.le_refl _)))|fail)
  clear c0 cA cC cK cT cL cO cN cX cD f1 f2 f3 f4 f5 f6 f7 f8 f9
  refine T.loop hL (fun z : Nat × List Fld => [(2, .pv 2 0), (8, .pv 8 0), (10, .pv 10 0), (12, .pv 12 0), (14, .pv 14 0), (16, .pv 16 0), (18, .pv 18 0), (20, .pv 20 0), (22, .pv 22 0), (23, .i .i64 z.1)])
    (fun z => [(2, .var [.s [], .nilS, .s [], .s [], .s [], .nilS, .nilS, .b false, .b false]), (8, .var (jP (getJ x kKey).1)), (10, .var (jP (getJ x kAttr).1)), (12, .var (jQ (getJ x kLayers).1)), (14, .var (jP (getJ x kOnly).1)), (16, .var (jP (getJ x kNot).1)), (18, .var (jP (getJ x kTexts).1)), (20, .var (jP (getJ x kDrop).1)), (22, .var [.s (getJ x kArchive).1.text, .gs 105 2 z.2.length (fldF z.2), .s (getJ x kCsv).1.text, .s [], .s [], .nilS, .nilS, .b false, .b false]), (105, .row 46 2 z.2.length)])
    (fun z => z.1 ≤ (getJ x kLayers).1.list.length ∧ z.2.length = z.1 ∧ laysP (getJ x kLayers).1.list = (z.2 ++ (laysP ((getJ x kLayers).1.list.drop z.1)).1, (laysP ((getJ x kLayers).1.list.drop z.1)).2)) (fun z => (getJ x kLayers).1.list.length - z.1) (0, []) ⟨Nat.zero_le _, rfl, by simp⟩
    ⟨⟨rfl, rfl, rfl, rfl, rfl, rfl, rfl, rfl, rfl, rfl, trivial⟩, ⟨rfl, rfl, rfl, rfl, rfl, rfl, rfl, rfl, rfl, rfl, trivial⟩, rfl, by rw [hX]; simp⟩ ?_
  rintro ⟨i, acc⟩ ⟨g1, g2, g3⟩
  dsimp only at g1 g2 g3 ⊢
  have hnat : (i : Int).toNat = i := Int.toNat_natCast i
  have hLen : (getJ x kLayers).1.list.length ≤ 1000000 := Nat.le_trans (zbZ _) (by omega)
  by_cases hil : i < (getJ x kLayers).1.list.length
  · have hil' : (i : Int) < (getJ x kLayers).1.list.length := by omega
    rw [zkQ hil] at g3
    have cS := zdS ((getJ x kLayers).1.list.getD (i : Int).toNat j0) (by
      have h2 := zkV (l := (getJ x kLayers).1.list) (i := (i : Int).toNat) (by omega)
      omega)
    have hlr : layR ((getJ x kLayers).1.list.getD i j0) = layR ((getJ x kLayers).1.list.getD (i : Int).toNat j0) := by rw [hnat]
    rw [hlr] at g3
    clear hlr
    unfold layR at g3
    generalize strsJ ((getJ x kLayers).1.list.getD (i : Int).toNat j0).list = r at cS g3
    obtain ⟨t, ok⟩ := r
    replace cS : Ctr Tryz.prog 61 [.ag (jP ((getJ x kLayers).1.list.getD (i : Int).toNat j0))] (.tu [.sl 1 t.length (txF t), .b ok]) := cS
    dsimp only at g3
    clear cS1 cS2
    cases ok with
    | false =>
      rw [if_neg (fun h => by cases h.1)] at g3
      replace g3 : laysP (getJ x kLayers).1.list = (acc, false) := g3.trans (by simp)
      rw [g3, if_neg Bool.false_ne_true]
      repeat' (first |refine zah (f := 61) rfl rfl Tryz.call61 rfl cS ?_|with_reducible (first |refine zag ?_|refine zaa ?_|refine zaf ?_|refine zad ?_|refine zaj ?_|refine zai ?_|refine zae ?_|refine zal ?_|refine zap ?_)|refine zab rfl rfl True.intro ?_|refine zau rfl rfl rfl ?_|refine zam rfl rfl rfl rfl True.intro ?_|refine zas rfl ?_|((first |refine zac rfl ?_ ?_|refine zaQ rfl rfl ?_ ?_)<;>intro<;>try (first |(exfalso;omega)))|((first |refine zab rfl rfl ?_ ?_|refine zar rfl ?_ ?_);focus (first |omega|exact le_ rfl|((repeat' refine And.intro ?_ ?_)<;>omega)|((repeat' refine And.intro ?_ ?_)<;>first |rfl|exact Nat.le_refl _)))|refine zaB rfl ?_|fail)
      all_goals exact zfG
    | true =>
    by_cases hk : ((getJ x kLayers).1.list.getD (i : Int).toNat j0).kind = 4
    rotate_left
    · rw [if_neg (fun h => hk h.2.1)] at g3
      replace g3 : laysP (getJ x kLayers).1.list = (acc, false) := g3.trans (by simp)
      rw [g3, if_neg Bool.false_ne_true]
      repeat' (first |refine zah (f := 61) rfl rfl Tryz.call61 rfl cS ?_|with_reducible (first |refine zag ?_|refine zaa ?_|refine zaf ?_|refine zad ?_|refine zaj ?_|refine zai ?_|refine zae ?_|refine zal ?_|refine zap ?_)|refine zab rfl rfl True.intro ?_|refine zau rfl rfl rfl ?_|refine zas rfl ?_|((first |refine zac rfl ?_ ?_|refine zaQ rfl rfl ?_ ?_)<;>intro<;>try (first |(exfalso;omega)))|((first |refine zab rfl rfl ?_ ?_|refine zar rfl ?_ ?_);focus (first |omega|exact le_ rfl|((repeat' refine And.intro ?_ ?_)<;>omega)|((repeat' refine And.intro ?_ ?_)<;>first |rfl|exact Nat.le_refl _)))|refine zaB rfl ?_|fail)
      all_goals exact zfG
    by_cases ht : t.length = 2
    rotate_left
    · rw [if_neg (fun h => ht h.2.2)] at g3
      replace g3 : laysP (getJ x kLayers).1.list = (acc, false) := g3.trans (by simp)
      have ht' : ¬ (t.length : Int) = 2 := by omega
      rw [g3, if_neg Bool.false_ne_true]
      repeat' (first |refine zah (f := 61) rfl rfl Tryz.call61 rfl cS ?_|with_reducible (first |refine zag ?_|refine zaa ?_|refine zaf ?_|refine zad ?_|refine zaj ?_|refine zai ?_|refine zae ?_|refine zal ?_|refine zap ?_)|refine zab rfl rfl True.intro ?_|refine zam rfl rfl rfl rfl True.intro ?_|((first |refine zac rfl ?_ ?_|refine zat rfl ?_ ?_|refine zaQ rfl rfl ?_ ?_)<;>intro<;>try (first |(exfalso;omega)))|((first |refine zab rfl rfl ?_ ?_|refine zar rfl ?_ ?_);focus (first |omega|exact le_ rfl|((repeat' refine And.intro ?_ ?_)<;>omega)|((repeat' refine And.intro ?_ ?_)<;>first |rfl|exact Nat.le_refl _)))|refine zaB rfl ?_|fail)
      all_goals exact zfG
    rw [if_pos ⟨rfl, hk, ht⟩] at g3
    obtain ⟨u, v, rfl⟩ : ∃ u v, t = [u, v] := by
      match t, ht with
      | [u, v], _ => exact ⟨u, v, rfl⟩
    replace g3 : laysP (getJ x kLayers).1.list = ((acc ++ [(u, v)]) ++ (laysP ((getJ x kLayers).1.list.drop (i + 1))).1, (laysP ((getJ x kLayers).1.list.drop (i + 1))).2) := g3.trans (by simp)
    have e := zkj acc (u, v) (chunk 2 [.s u, .s v]) rfl
    have g4 : (acc ++ [(u, v)]).length = acc.length + 1 := by simp
    repeat' (first |refine zah (f := 61) rfl rfl Tryz.call61 rfl cS ?_|with_reducible (first |refine zag ?_|refine zaa ?_|refine zaf ?_|refine zad ?_|refine zai ?_|refine zae ?_|refine zaq ?_|refine zaD ?_)|refine zab rfl rfl True.intro ?_|refine zam rfl rfl rfl rfl True.intro ?_|refine zak rfl ?_|((first |refine zac rfl ?_ ?_|refine zaQ rfl rfl ?_ ?_)<;>intro<;>try (first |(exfalso;omega)))|((first |refine zab rfl rfl ?_ ?_|refine zao rfl rfl ?_ ?_|refine zar rfl ?_ ?_);focus (first |omega|exact le_ rfl|((repeat' refine And.intro ?_ ?_)<;>omega)|((repeat' refine And.intro ?_ ?_)<;>first |omega|rfl|exact le_ rfl)))|with_reducible refine ⟨by kernel_rfl, ?_⟩|fail)
    all_goals exact ⟨(i + 1, acc ++ [(u, v)]), ⟨by dsimp only; omega, by dsimp only; omega, g3⟩, by dsimp only; omega, ⟨rfl, rfl, rfl, rfl, rfl, rfl, rfl, rfl, rfl, rfl, trivial⟩, ⟨rfl, rfl, rfl, rfl, rfl, rfl, rfl, rfl, by rw [g4, ← e]; rfl, by rw [g4]; rfl, trivial⟩, rfl, by rw [hX]; simp⟩
  have hil' : ¬ (i : Int) < (getJ x kLayers).1.list.length := by omega
  have g5 : laysP (getJ x kLayers).1.list = (acc, true) := by
    rw [g3, List.drop_eq_nil_of_le (by omega)]
    show (acc ++ [], true) = _
    rw [List.append_nil]
  rw [g5, if_pos rfl]
  clear g3 g5
  unfold rsSrc
  generalize strsJ (getJ x kOnly).1.list = r1 at cS1 ⊢
  generalize strsJ (getJ x kNot).1.list = r2 at cS2 ⊢
  obtain ⟨l1, b1⟩ := r1
  obtain ⟨l2, b2⟩ := r2
  replace cS1 : Ctr Tryz.prog 61 [.ag (jP (getJ x kOnly).1)] (.tu [.sl 1 l1.length (txF l1), .b b1]) := cS1
  replace cS2 : Ctr Tryz.prog 61 [.ag (jP (getJ x kNot).1)] (.tu [.sl 1 l2.length (txF l2), .b b2]) := cS2
  cases b1 <;> cases b2
  all_goals
    repeat' (first |refine zah (f := 61) rfl rfl Tryz.call61 rfl cS1 ?_|refine zah (f := 61) rfl rfl Tryz.call61 rfl cS2 ?_|with_reducible (first |refine zag ?_|refine zaa ?_|refine zaf ?_|refine zad ?_|refine zaj ?_|refine zaz ?_|refine zaA ?_)|refine zab rfl rfl True.intro ?_|refine zau rfl rfl rfl ?_|refine zam rfl rfl rfl rfl True.intro ?_|((first |refine zac rfl ?_ ?_)<;>intro<;>try (first |(exfalso;omega)))|((first |refine zab rfl rfl ?_ ?_|refine zar rfl ?_ ?_);focus (first |exact le_ rfl|((repeat' refine And.intro ?_ ?_)<;>omega)|((repeat' refine And.intro ?_ ?_)<;>first |rfl|exact Nat.le_refl _)))|refine zaJ rfl ?_|refine zaB rfl ?_|fail)
  all_goals exact .of_eq rfl

theorem zhN {x : J} (h : goodJ x) (hk : x.kind = 5) (k : Txt) : (getJ x k).2 = true ↔ k ∈ x.keys := by
  have hm := @zdF k x.keys
  have hl := (zbS h.2).1 hk
  unfold getJ
  constructor
  · intro q
    split at q
    · rename_i p
      exact hm.1.1 p.2.1
    · cases q
  · intro q
    rw [if_pos ⟨hk, hm.1.2 q, by omega⟩]
theorem zsp {x : J} (h : goodJ x) (hk : x.kind = 5) (k : Txt) (n : Nat) : gN x k n = n + (if k ∈ x.keys then 1 else 0) := by
  unfold gN
  by_cases q : k ∈ x.keys
  · rw [if_pos ((zhN h hk k).2 q), if_pos q]
  · rw [if_neg (fun p => q ((zhN h hk k).1 p)), if_neg q]
    rfl
theorem zfH {ks ns : List Txt} (hk : ks.Nodup) (hn : ns.Nodup) : ns.countP (fun k => decide (k ∈ ks)) = ks.length ↔ ∀ k ∈ ks, k ∈ ns := by
  have e : (ns.filter fun k => decide (k ∈ ks)).length = (ks.filter fun k => decide (k ∈ ns)).length := by
    refine List.Perm.length_eq ((List.perm_ext_iff_of_nodup (hn.filter _) (hk.filter _)).2 fun a => ?_)
    simp only [List.mem_filter, decide_eq_true_eq]
    exact And.comm
  rw [List.countP_eq_length_filter, e, List.length_filter_eq_length_iff]
  simp only [decide_eq_true_eq]
theorem zss (x : J) (k : Txt) (kd : Int) (must bad : Bool) : gB x k kd must bad = (bad || !prB x k kd must) := by
  unfold gB prB
  split
  · rfl
  · rw [Bool.not_not]
theorem zdj {x : J} {k : Txt} {kd : Int} {must : Bool} (h : prB x k kd must = true) : gK x k kd = (getJ x k).1 := by
  unfold prB at h
  unfold gK
  cases q : (getJ x k).2 with
  | true =>
    rw [q, if_pos rfl] at h
    rw [if_pos (of_decide_eq_true h)]
  | false =>
    rw [zhW q]
    split <;> rfl
theorem zkC (x : J) (ns : List Txt) : onlyB x ns = true ↔ (∀ k ∈ x.keys, k ∈ ns) ∧ x.kind = 5 := by
  unfold onlyB
  rw [Bool.and_eq_true, List.all_eq_true, decide_eq_true_eq]
  simp only [decide_eq_true_eq]
theorem zfz : nsSrc.Nodup := by decide
theorem zij {x : J} (h : goodJ x) (hk : x.kind = 5) : srN x = nsSrc.countP (fun k => decide (k ∈ x.keys)) := by
  unfold srN srN7 srN6 srN5 srN3 nsSrc
  simp only [zsp h hk, List.countP_cons, List.countP_nil, decide_eq_true_eq]
  omega
theorem zoT {x : J} (h : goodJ x) : dnB x (srN x) (srB x) = true ↔ onlyB x nsSrc = true ∧ srB x = false := by
  unfold dnB
  rw [decide_eq_true_eq, zkC]
  constructor
  · rintro ⟨h1, h2, h3⟩
    rw [zij h h2] at h3
    exact ⟨⟨(zfH (zbS h.2).2.2.1.1 zfz).1 h3, h2⟩, h1⟩
  · rintro ⟨⟨h3, h2⟩, h1⟩
    refine ⟨h1, h2, ?_⟩
    rw [zij h h2]
    exact (zfH (zbS h.2).2.2.1.1 zfz).2 h3
theorem zrA (x : J) : srB x = false ↔ flP x ∧ (strsJ (gK x kOnly 4).list).2 = true ∧ (strsJ (gK x kNot 4).list).2 = true := by
  unfold srB srB7 srB6 srB5 srB3 flP
  simp only [zss, Bool.or_eq_false_iff, Bool.not_eq_false', Bool.false_or]
  constructor
  · intro h
    simp_all
  · intro h
    simp_all
theorem rs_eq {x : J} (h : goodJ x) : (rsD x).2 = (rdSrc x).2 ∧ ((rdSrc x).2 = true → (rsD x).1 = (rdSrc x).1) := by
  have hd := zoT h
  have hb := zrA x
  have hg := fun k => zdu h k
  unfold rsD rdSrc
  by_cases hf : flP x
  · have hfl := hf
    obtain ⟨f1, f2, f3, f4, f5, f6, f7, f8, f9⟩ := hf
    have e : ∀ ls, srcOfJ x ls = rsSrc x ls := fun ls => by
      unfold srcOfJ rsSrc
      rw [zdj f1, zdj f2, zdj f3, zdj f4, zdj f6, zdj f7, zdj f8, zdj f9]
    rw [zdj f5]
    rw [zdj f6, zdj f7] at hb
    by_cases ho : onlyB x nsSrc = true
    · rw [if_pos ⟨ho, hfl⟩]
      by_cases hl : (laysP (getJ x kLayers).1.list).2 = true
      · rw [if_pos hl, if_pos hl]
        dsimp only
        refine ⟨?_, fun _ => (e _).symm⟩
        rw [Bool.eq_iff_iff, hd, hb, Bool.and_eq_true]
        exact ⟨fun q => ⟨ho, hfl, q.1, q.2⟩, fun q => ⟨q.2.2.1, q.2.2.2⟩⟩
      · rw [if_neg hl, if_neg hl]
        exact ⟨rfl, fun q => by cases q⟩
    · rw [if_neg (fun q => ho q.1)]
      have hz : dnB x (srN x) (srB x) = false := Bool.eq_false_iff.2 fun q => ho (hd.1 q).1
      split
      · dsimp only
        rw [hz]
        exact ⟨rfl, fun q => by cases q⟩
      · exact ⟨rfl, fun q => by cases q⟩
  · rw [if_neg (fun q => hf q.2)]
    have hz : dnB x (srN x) (srB x) = false := Bool.eq_false_iff.2 fun q => hf (hb.1 (hd.1 q).2).1
    split
    · dsimp only
      rw [hz]
      exact ⟨rfl, fun q => by cases q⟩
    · exact ⟨rfl, fun q => by cases q⟩
def nsCmp : List Txt := [kId, kSources, kBuffer, kMaxzoom, kLimit]
theorem zjy : nsCmp.Nodup := by decide
theorem znm {x : J} (h : goodJ x) (hk : x.kind = 5) : cmN x = nsCmp.countP (fun k => decide (k ∈ x.keys)) := by
  unfold cmN cmN4 cmN3 cmN2 cmN1 nsCmp
  simp only [zsp h hk, List.countP_cons, List.countP_nil, decide_eq_true_eq]
  omega
def nmP (x : J) (k : Txt) : Prop := prB x k 2 true = true ∧ (whJ (getJ x k).1).2 = true
def cmP (x : J) : Prop := onlyB x nsCmp = true ∧ prB x kId 3 true = true ∧ prB x kSources 4 true = true ∧ nmP x kBuffer ∧ nmP x kMaxzoom ∧ nmP x kLimit
theorem zoJ {x : J} (h : goodJ x) : dnB x (cmN x) (cmB x) = true ↔ cmP x := by
  have hc := fun hk => znm h hk
  have ha := zfH (zbS h.2).2.2.1.1 zjy
  have h5 : ∀ k, prB x k 2 true = true → gK x k 2 = (getJ x k).1 := fun k q => zdj q
  unfold dnB cmP nmP cmB cmB4 cmB3 cmB2 cmB1
  rw [decide_eq_true_eq, zkC]
  simp only [zss, Bool.or_eq_false_iff, Bool.not_eq_false', Bool.false_or]
  constructor
  · rintro ⟨⟨⟨⟨⟨⟨⟨⟨p1, p2⟩, p3⟩, p4⟩, p5⟩, p6⟩, p7⟩, p8⟩, h2, h3⟩
    rw [hc h2] at h3
    rw [h5 _ p2] at p3
    rw [h5 _ p4] at p5
    rw [h5 _ p6] at p7
    exact ⟨⟨ha.1 h3, h2⟩, p1, p8, ⟨p2, p3⟩, ⟨p4, p5⟩, ⟨p6, p7⟩⟩
  · rintro ⟨⟨h3, h2⟩, p1, p8, ⟨p2, p3⟩, ⟨p4, p5⟩, ⟨p6, p7⟩⟩
    rw [h5 _ p2, h5 _ p4, h5 _ p6, hc h2]
    exact ⟨⟨⟨⟨⟨⟨⟨⟨p1, p2⟩, p3⟩, p4⟩, p5⟩, p6⟩, p7⟩, p8⟩, h2, ha.2 h3⟩
end Go.Proofs.YtcajofhafpkbdaaGreatDoor.Flow
