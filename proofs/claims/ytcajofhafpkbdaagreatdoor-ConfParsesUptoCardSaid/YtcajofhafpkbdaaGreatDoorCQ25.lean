/- The texts G18, FlowXf, G21, G22, one behind the other. -/
import Derived.Test.YtcajofhafpkbdaaGreatDoorCQ16
import Derived.Test.YtcajofhafpkbdaaGreatDoorCQ19
import Derived.Test.YtcajofhafpkbdaaGreatDoorCQ20
import Derived.Test.YtcajofhafpkbdaaGreatDoorCQ21
import Derived.Test.YtcajofhafpkbdaaGreatDoorCQ22
import Derived.Test.YtcajofhafpkbdaaGreatDoorCQ24
namespace Go.Proofs.YtcajofhafpkbdaaGreatDoor.Flow
open Go
def kId : Txt := [105, 100]
def kSources : Txt := [115, 111, 117, 114, 99, 101, 115]
def kBuffer : Txt := [98, 117, 102, 102, 101, 114]
def kMaxzoom : Txt := [109, 97, 120, 122, 111, 111, 109]
def kLimit : Txt := [108, 105, 109, 105, 116]
def cmpJ (c : CmpR) : J := mapJ ([txJ c.id] ++ [listJ (c.srcs.map srcJ)] ++ [numJ c.buf] ++ [numJ c.mx] ++ [numJ c.lim]) ([kId] ++ [kSources] ++ [kBuffer] ++ [kMaxzoom] ++ [kLimit])
def confJ (l : List CmpR) : J := listJ (l.map cmpJ)
def textC (l : List CmpR) : Txt := if okL l then (if rightJ 64 (confJ l) = true then textJ (confJ l) else []) else []
theorem CtrO.shutR {P : Program} {f : FuncId} {args : List D} {ow ow' : Ow} {d : D} (h : CtrO P f args ow d ow') : CtrO P f args ow d.shutA ow' := fun X vs h1 h2 h3 h4 h5 =>
  (h X vs h1 h2 h3 h4 h5).mono fun _ _ ⟨v, S', r', g1, g2, g3⟩ => ⟨v, S', r', g1, g2.shutA, g3⟩
theorem znl (l : List J) (ks : List Txt) (y : J) (key : Txt) (hl : l.length ≤ 4194304) (hk : ks.length ≤ 4194304) : CtrO Tryz.prog 33 [.ag (xG l ks), .s key, .ag (jP y)] (xR l ks) (.ag (jP (mapJ (l ++ [y]) (ks ++ [key])))) (xR (l ++ [y]) (ks ++ [key])) := (zby l ks y key hl hk).shutR
set_option maxRecDepth 100000 in
set_option maxHeartbeats 16000000 in
theorem zoA (l : List CmpR) (hl : fitL l) (hb : ∀ i, bigC (l.getD i c0R)) (hj : jb (confJ l) ≤ 1000000) : Ctr Tryz.prog 16 [.sl 5 l.length (cmpF l)] (.s (textC l)) := by
  have cR := zgM l hl hb
  have cT := (zlS (confJ l) hj).weak1 (zdE _)
  unfold textC
  by_cases hok : okL l
  rotate_left
  · rw [decide_eq_false hok] at cR
    rw [if_neg hok]
    refine zay Tryz.func16 rfl Tryz.ntmps16 Tryz.results16 rfl rfl fun X hL hX => ?_
    repeat' (first |refine zah (f := 17) rfl rfl Tryz.call17 rfl cR ?_|with_reducible (first |refine zag ?_|refine zaa ?_|refine zaf ?_|refine zad ?_|refine zaj ?_|refine zal ?_)|refine zab rfl rfl True.intro ?_|refine zas rfl ?_|refine zaw rfl ?_|fail)
    all_goals rfl
  rw [decide_eq_true hok] at cR
  rw [if_pos hok]
  generalize (if rightJ 64 (confJ l) = true then textJ (confJ l) else []) = out at cT ⊢
  obtain ⟨hl1, hl2⟩ := hl
  refine zay Tryz.func16 rfl Tryz.ntmps16 Tryz.results16 rfl rfl fun X hL hX => ?_
  repeat' (first |refine T.adoptV 3 6 100 55 8 _ (jF []) rfl rfl rfl ?_|refine zah (f := 17) rfl rfl Tryz.call17 rfl cR ?_|with_reducible (first |refine zag ?_|refine zaa ?_|refine zaf ?_|refine zad ?_|refine zai ?_|refine zae ?_)|refine zab rfl rfl True.intro ?_|refine zak rfl ?_|((first |refine zao rfl rfl ?_ ?_|refine zar rfl ?_ ?_);focus (first |((repeat' refine And.intro ?_ ?_)<;>omega)|((repeat' refine And.intro ?_ ?_)<;>first |rfl|exact Nat.le_refl _)))|fail)
  refine T.loop hL (fun i : Nat => [(3, .pv 3 0), (14, .sl 5 l.length (cmpF l)), (15, .i .i64 l.length), (16, .i .i64 i)]) (fun i => [(3, .var [.i .i64 4, .b false, .b false, .s [], .i .i64 0, .s [], .gs 100 8 ((l.take i).map cmpJ).length (jF ((l.take i).map cmpJ)), .nilS]), (100, .row 55 8 ((l.take i).map cmpJ).length)])
    (fun i => i ≤ l.length ∧ ((l.take i).map cmpJ).length = i) (fun i => l.length - i) 0 ⟨Nat.zero_le _, by simp⟩
    ⟨⟨rfl, rfl, rfl, rfl, trivial⟩, ⟨rfl, rfl, trivial⟩, rfl, by rw [hX]; simp⟩ ?_
  rintro i ⟨g1, g2⟩
  try dsimp only at g1 g2 ⊢
  have hnat : (i : Int).toNat = i := Int.toNat_natCast i
  by_cases hil : i < l.length
  rotate_left
  · have hil' : ¬ (i : Int) < l.length := by omega
    have ea : l.take i = l := List.take_of_length_le (by omega)
    rw [ea]
    repeat' (first |refine zcV (t := 62) rfl rfl (le_ rfl) ?_|refine zah (f := 36) rfl rfl Tryz.call36 rfl cT ?_|with_reducible (first |refine zag ?_|refine zaa ?_|refine zaf ?_|refine zad ?_|refine zaj ?_|refine zaz ?_|refine zaA ?_)|refine zab rfl rfl True.intro ?_|((first |refine zac rfl ?_ ?_)<;>intro<;>try (first |(exfalso;omega)))|refine zaJ rfl ?_|refine zaw rfl ?_|fail)
    all_goals rfl
  clear cT cR
  have hil' : (i : Int) < l.length := by omega
  obtain ⟨hc1, hc2⟩ := hl2 (i : Int).toNat
  obtain ⟨⟨_, _, _, p1, p2, p3, p4, p5, p6⟩, _⟩ := hok i hil
  have e := zdt (f := cmpJ) (d := c0R) hil
  have e1 := zdI ((l.take i).map cmpJ) (cmpJ (l.getD (i : Int).toNat c0R)) (chunk 8 (jP (cmpJ (l.getD (i : Int).toNat c0R)))) (by rw [zla]; rfl)
  rw [hnat] at e1
  have g3 : ((l.take (i + 1)).map cmpJ).length = ((l.take i).map cmpJ).length + 1 := by rw [e, List.length_append]; rfl
  repeat' (first |refine T.adoptV 6 6 103 55 8 _ (jF []) rfl rfl rfl ?_|with_reducible (first |refine zag ?_|refine zaa ?_|refine zaf ?_|refine zad ?_|refine zai ?_|refine zae ?_)|refine zab rfl rfl True.intro ?_|((first |refine zac rfl ?_ ?_)<;>intro<;>try (first |(exfalso;omega)))|((first |refine zab rfl rfl ?_ ?_|refine zao rfl rfl ?_ ?_|refine zar rfl ?_ ?_);focus (first |omega|exact le_ rfl|((repeat' refine And.intro ?_ ?_)<;>omega)|((repeat' refine And.intro ?_ ?_)<;>first |rfl|exact Nat.le_refl _)))|fail)
  refine T.loop hL (fun k : Nat => [(3, .pv 3 0), (5, .pv 5 0), (6, .pv 6 0), (14, .sl 5 l.length (cmpF l)), (15, .i .i64 l.length), (16, .i .i64 i), (22, .sl 9 (l.getD (i : Int).toNat c0R).srcs.length (srcF (l.getD (i : Int).toNat c0R).srcs)), (23, .i .i64 (l.getD (i : Int).toNat c0R).srcs.length), (24, .i .i64 k)]) (fun k => [(3, .var [.i .i64 4, .b false, .b false, .s [], .i .i64 0, .s [], .gs 100 8 ((l.take i).map cmpJ).length (jF ((l.take i).map cmpJ)), .nilS]), (5, .var (cmpP (l.getD (i : Int).toNat c0R))), (6, .var [.i .i64 4, .b false, .b false, .s [], .i .i64 0, .s [], .gs 103 8 (((l.getD (i : Int).toNat c0R).srcs.take k).map srcJ).length (jF (((l.getD (i : Int).toNat c0R).srcs.take k).map srcJ)), .nilS]), (100, .row 55 8 ((l.take i).map cmpJ).length), (103, .row 55 8 (((l.getD (i : Int).toNat c0R).srcs.take k).map srcJ).length)])
    (fun k => k ≤ (l.getD (i : Int).toNat c0R).srcs.length ∧ (((l.getD (i : Int).toNat c0R).srcs.take k).map srcJ).length = k) (fun k => (l.getD (i : Int).toNat c0R).srcs.length - k) 0 ⟨Nat.zero_le _, by simp⟩
    ⟨⟨rfl, rfl, rfl, rfl, rfl, rfl, rfl, rfl, rfl, trivial⟩, ⟨rfl, rfl, rfl, rfl, rfl, trivial⟩, rfl, by rw [hX]; simp⟩ ?_
  rintro k ⟨u1, u2⟩
  try dsimp only at u1 u2 ⊢
  have knat : (k : Int).toNat = k := Int.toNat_natCast k
  by_cases hkl : k < (l.getD (i : Int).toNat c0R).srcs.length
  · have hkl' : (k : Int) < (l.getD (i : Int).toNat c0R).srcs.length := by omega
    have c := zjC ((l.getD (i : Int).toNat c0R).srcs.getD (k : Int).toNat s0R) (hc2 _)
    have f := zdt (f := srcJ) (d := s0R) hkl
    have f1 := zdI (((l.getD (i : Int).toNat c0R).srcs.take k).map srcJ) (srcJ ((l.getD (i : Int).toNat c0R).srcs.getD (k : Int).toNat s0R)) (chunk 8 (jP (srcJ ((l.getD (i : Int).toNat c0R).srcs.getD (k : Int).toNat s0R)))) (by rw [zla]; rfl)
    rw [knat] at f1
    have u3 : (((l.getD (i : Int).toNat c0R).srcs.take (k + 1)).map srcJ).length = (((l.getD (i : Int).toNat c0R).srcs.take k).map srcJ).length + 1 := by rw [f, List.length_append]; rfl
    clear e e1 g3
    repeat' (first |refine zah (f := 32) rfl rfl Tryz.call32 rfl c ?_|with_reducible (first |refine zag ?_|refine zaa ?_|refine zaf ?_|refine zad ?_|refine zai ?_|refine zae ?_|refine zaq ?_|refine zaD ?_)|refine zab rfl rfl True.intro ?_|((first |refine zac rfl ?_ ?_)<;>intro<;>try (first |(exfalso;omega)))|((first |refine zab rfl rfl ?_ ?_|refine zao rfl rfl ?_ ?_|refine zar rfl ?_ ?_);focus (first |omega|exact le_ rfl|((repeat' refine And.intro ?_ ?_)<;>omega)|((repeat' refine And.intro ?_ ?_)<;>first |omega|rfl|exact Nat.le_refl _|exact le_ rfl)))|with_reducible refine ⟨by kernel_rfl, ?_⟩|fail)
    all_goals exact ⟨k + 1, ⟨by omega, by omega⟩, by omega, ⟨rfl, rfl, rfl, rfl, rfl, rfl, rfl, rfl, rfl, trivial⟩, ⟨rfl, rfl, by rw [u3, f, ← f1]; rfl, rfl, by rw [u3]; rfl, trivial⟩, rfl, by rw [hX]; simp⟩
  have hkl' : ¬ (k : Int) < (l.getD (i : Int).toNat c0R).srcs.length := by omega
  have ea : (l.getD (i : Int).toNat c0R).srcs.take k = (l.getD (i : Int).toNat c0R).srcs := List.take_of_length_le (by omega)
  rw [ea]
  rw [← hnat] at p1 p2 p3 p4 p5 p6
  have oI := zeJ (l.getD (i : Int).toNat c0R).id
  have wI := ziG (txJ (l.getD (i : Int).toNat c0R).id) kId
  have wS := (zby [txJ (l.getD (i : Int).toNat c0R).id] [kId] (listJ ((l.getD (i : Int).toNat c0R).srcs.map srcJ)) kSources (by simp) (by simp)).weakThird (zdE _)
  have n1 := zhA (l.getD (i : Int).toNat c0R).buf (by omega) (by omega)
  have n2 := zhA (l.getD (i : Int).toNat c0R).mx (by omega) (by omega)
  have n3 := zhA (l.getD (i : Int).toNat c0R).lim (by omega) (by omega)
  have w1 := zby ([txJ (l.getD (i : Int).toNat c0R).id] ++ [listJ ((l.getD (i : Int).toNat c0R).srcs.map srcJ)]) ([kId] ++ [kSources]) (numJ (l.getD (i : Int).toNat c0R).buf) kBuffer (by simp) (by simp)
  have w2 := zby ([txJ (l.getD (i : Int).toNat c0R).id] ++ [listJ ((l.getD (i : Int).toNat c0R).srcs.map srcJ)] ++ [numJ (l.getD (i : Int).toNat c0R).buf]) ([kId] ++ [kSources] ++ [kBuffer]) (numJ (l.getD (i : Int).toNat c0R).mx) kMaxzoom (by simp) (by simp)
  have w3 := znl ([txJ (l.getD (i : Int).toNat c0R).id] ++ [listJ ((l.getD (i : Int).toNat c0R).srcs.map srcJ)] ++ [numJ (l.getD (i : Int).toNat c0R).buf] ++ [numJ (l.getD (i : Int).toNat c0R).mx]) ([kId] ++ [kSources] ++ [kBuffer] ++ [kMaxzoom]) (numJ (l.getD (i : Int).toNat c0R).lim) kLimit (by simp) (by simp)
  clear hok p1 p2 p3 p4 p5 p6
  repeat' (first |refine zah (f := 34) rfl rfl Tryz.call34 rfl oI ?_|refine zah (f := 35) rfl rfl Tryz.call35 rfl n1 ?_|refine zah (f := 35) rfl rfl Tryz.call35 rfl n2 ?_|refine zah (f := 35) rfl rfl Tryz.call35 rfl n3 ?_|refine zbH (f := 33) [] (xR [txJ (l.getD (i : Int).toNat c0R).id] [kId]) [] [101, 102] rfl rfl (by decide) (fun _ h => by cases h) (new2 rfl rfl) rfl rfl Tryz.call33 trivial rfl rfl rfl rfl wI ?_|refine zbH (f := 33) (xR ([txJ (l.getD (i : Int).toNat c0R).id]) ([kId])) (xR ([txJ (l.getD (i : Int).toNat c0R).id] ++ [listJ ((l.getD (i : Int).toNat c0R).srcs.map srcJ)]) ([kId] ++ [kSources])) [101, 102] [101, 102] rfl rfl (by decide) (fun _ h => h) (fun k h1 h2 => absurd h1 h2) rfl rfl Tryz.call33 ⟨rfl, rfl, trivial⟩ rfl rfl rfl rfl wS ?_|refine zbH (f := 33) (xR ([txJ (l.getD (i : Int).toNat c0R).id] ++ [listJ ((l.getD (i : Int).toNat c0R).srcs.map srcJ)]) ([kId] ++ [kSources])) (xR ([txJ (l.getD (i : Int).toNat c0R).id] ++ [listJ ((l.getD (i : Int).toNat c0R).srcs.map srcJ)] ++ [numJ (l.getD (i : Int).toNat c0R).buf]) ([kId] ++ [kSources] ++ [kBuffer])) [101, 102] [101, 102] rfl rfl (by decide) (fun _ h => h) (fun k h1 h2 => absurd h1 h2) rfl rfl Tryz.call33 ⟨rfl, rfl, trivial⟩ rfl rfl rfl rfl w1 ?_|refine zbH (f := 33) (xR ([txJ (l.getD (i : Int).toNat c0R).id] ++ [listJ ((l.getD (i : Int).toNat c0R).srcs.map srcJ)] ++ [numJ (l.getD (i : Int).toNat c0R).buf]) ([kId] ++ [kSources] ++ [kBuffer])) (xR ([txJ (l.getD (i : Int).toNat c0R).id] ++ [listJ ((l.getD (i : Int).toNat c0R).srcs.map srcJ)] ++ [numJ (l.getD (i : Int).toNat c0R).buf] ++ [numJ (l.getD (i : Int).toNat c0R).mx]) ([kId] ++ [kSources] ++ [kBuffer] ++ [kMaxzoom])) [101, 102] [101, 102] rfl rfl (by decide) (fun _ h => h) (fun k h1 h2 => absurd h1 h2) rfl rfl Tryz.call33 ⟨rfl, rfl, trivial⟩ rfl rfl rfl rfl w2 ?_|refine zbH (f := 33) (xR ([txJ (l.getD (i : Int).toNat c0R).id] ++ [listJ ((l.getD (i : Int).toNat c0R).srcs.map srcJ)] ++ [numJ (l.getD (i : Int).toNat c0R).buf] ++ [numJ (l.getD (i : Int).toNat c0R).mx]) ([kId] ++ [kSources] ++ [kBuffer] ++ [kMaxzoom])) (xR ([txJ (l.getD (i : Int).toNat c0R).id] ++ [listJ ((l.getD (i : Int).toNat c0R).srcs.map srcJ)] ++ [numJ (l.getD (i : Int).toNat c0R).buf] ++ [numJ (l.getD (i : Int).toNat c0R).mx] ++ [numJ (l.getD (i : Int).toNat c0R).lim]) ([kId] ++ [kSources] ++ [kBuffer] ++ [kMaxzoom] ++ [kLimit])) [101, 102] [101, 102] rfl rfl (by decide) (fun _ h => h) (fun k h1 h2 => absurd h1 h2) rfl rfl Tryz.call33 ⟨rfl, rfl, trivial⟩ rfl rfl rfl rfl w3 ?_|with_reducible (first |refine zag ?_|refine zaa ?_|refine zaf ?_|refine zad ?_|refine zaz ?_|refine zaq ?_|refine zaA ?_|refine zaD ?_)|refine zab rfl rfl True.intro ?_|((first |refine zac rfl ?_ ?_)<;>intro<;>try (first |(exfalso;omega)))|((first |refine zab rfl rfl ?_ ?_|refine zao rfl rfl ?_ ?_|refine zar rfl ?_ ?_);focus (first |omega|exact le_ rfl|((repeat' refine And.intro ?_ ?_)<;>omega)|((repeat' refine And.intro ?_ ?_)<;>first |omega|rfl|exact Nat.le_refl _|exact le_ rfl)))|refine zaJ rfl ?_|with_reducible refine ⟨by kernel_rfl, ?_⟩|fail)
  all_goals exact ⟨i + 1, ⟨by omega, by omega⟩, by omega, ⟨rfl, rfl, rfl, rfl, trivial⟩, ⟨by rw [g3, e, ← e1]; rfl, by rw [g3]; rfl, trivial⟩, rfl, by rw [hX]; simp⟩

def bnd (f : FuncId) (b : Nat) : D := .v (.func (.func f) #[.pointer (some ⟨b, 0, none⟩)] #[])
section
variable {P : Program} {X : Ctx} {n : Nat} {fr : Fr} {ow ow' : Ow} {d : D}
theorem T.pin {c : Code} {Q : Exit → Fr → Ow → Prop} (k : Nat) (cs : List D) (hk : look k ow = some (.var cs)) (hL : Lent X) (h : ∀ (X' : Ctx) (b : Nat), Lent X' → X'.ids = k :: X.ids → X'.r0 k = some (.blk b) → T P X' n c fr ow Q) : T P X n c fr ow Q := fun a w ⟨S, r, hH, hI, hF, hd, hn, hρ⟩ => by
  obtain ⟨b, cur, e, g1, _⟩ := hI.obj k _ hk
  let X' : Ctx := { X with r0 := fun j => if j = k then some (.blk b) else X.r0 j, ids := k :: X.ids }
  have hle : RhoLe X.r0 X'.r0 := fun j l hl => by
    by_cases e : j = k
    · subst e
      obtain ⟨l', h1, h2⟩ := hρ j l hl
      rw [g1] at h1
      cases h1
      exact ⟨.blk b, if_pos rfl, h2⟩
    · exact ⟨l, (if_neg e).trans hl, LocLe.refl l⟩
  have hρ' : RhoLe X'.r0 r := fun j l hl => by
    by_cases e : j = k
    · subst e
      have h1 : some (Loc.blk b) = some l := (if_pos rfl).symm.trans hl
      cases h1
      exact ⟨_, g1, LocLe.refl _⟩
    · exact hρ j l ((if_neg e).symm.trans hl)
  have hL' : Lent X' := fun j hj => by
    by_cases e : j = k
    · subst e
      exact List.mem_cons_self
    · exact List.mem_cons_of_mem _ (hL j fun q => hj ((if_neg e).trans q))
  refine (h X' b hL' rfl (if_pos rfl) a w ⟨S, r, ⟨hH.os, hH.tape, hH.output, hH.size, hH.block, hH.sub, hH.cell, hH.new, hH.valid, hH.glob⟩, ⟨hI.obj, hI.dom, hI.apart, hI.low⟩, hF, hd, hn, hρ'⟩).mono ?_
  rintro e a w ⟨fr', ow', hq, S, r, hH, hI, hF, hd, hn, hρ⟩
  exact ⟨fr', ow', hq, S, r, ⟨hH.os, hH.tape, hH.output, hH.size, hH.block, hH.sub, hH.cell, hH.new, hH.valid, hH.glob⟩, ⟨hI.obj, hI.dom, hI.apart, hI.low⟩, hF, hd, hn, hle.trans hρ⟩
theorem zop {o : Oper} {f : FuncId} {x : Operand} {k b : Nat} (ho : o.op = .makeFunc (.func f) ⟨[x]⟩ ⟨[]⟩) (hx : ev fr x = .pv k 0) (hb : X.r0 k = some (.blk b)) (hd : dstOk o.dst n) :
    ∀ F' O', (∀ y ∈ o.op.operands.toList, evF F' y = evF (fF fr) y) → (∀ j ∈ ([] : List Nat), O' j = fO ow j) → StepAt P X n o F' O' (bnd f b) [] := by
  intro F' O' he hO a w K Q ⟨S, r, hH, hI, hF, hdf, hn, hρ⟩ hK
  have hx' := zcq hH.glob hF x
  rw [he x (by simp [ho, Op.operands]), zaZ, hx] at hx'
  generalize hv : a.eval x = vx at hx'
  cases hx' with
  | pv _ _ _ b' hb' =>
  obtain ⟨l', h1, h2⟩ := hρ k _ hb
  rw [hb'] at h1
  cases h1
  simp only [LocLe] at h2
  subst h2
  have hrun : (execOp a.eval o).run P w = .ok (.value (.func (.func f) #[.pointer (some ⟨b, 0, none⟩)] #[])) w := by
    simp [execOp, ho, hv, Instr.makeFunc]
  exact OW.value hrun (hK _ w ⟨S, r, hH, hI, zcx hF (hn ▸ hd) (.v _ _), by rw [zbk]; exact hdf, by rw [zbP]; exact hn, hρ⟩)
theorem zjR {o : Oper} {f : FuncId} {g : Operand} {xs : List Operand} {ts : Array TypeId} {k0 b0 : Nat} {args : List D} (hP : ∀ vs w, (callFunc f vs).run P w = .ok (.enter f vs) w) (ho : o.op = .call { callee := .value g, args := ⟨xs⟩, argTypes := ts }) (hg : ev fr g = bnd f b0)
    {r : Rho} (hb0 : X.r0 k0 = some (.blk b0)) (hρ : RhoLe X.r0 r) (hxs : .pv k0 0 :: evs fr xs = args) {F : Nat → D} (he : ∀ x ∈ o.op.operands.toList, evF F x = evF (fF fr) x)
    {S : Cells} {w : World} {a : Act} (hr : ∀ x, Rel S w r (evF F x) (a.eval x)) :
    ∃ vs : Array Value, (execOp a.eval o).run P w = .ok (.enter f vs) w ∧ vs.size = args.length ∧ ∀ j, j < args.length → Rel S w r (args.getD j .any) (vs.getD j undef) := by
  have hev : ∀ x ∈ o.op.operands.toList, Rel S w r (ev fr x) (a.eval x) := fun x hx => by
    rw [← zaZ, ← he x hx]
    exact hr x
  have h1 := hev g (by simp [ho, Op.operands, Call.operands])
  rw [hg] at h1
  have hx : ∀ x ∈ xs, Rel S w r (ev fr x) (a.eval x) := fun x hx => hev x (by simp [ho, Op.operands, Call.operands, hx])
  generalize hgv : a.eval g = gv at h1
  obtain ⟨l', q1, q2⟩ := hρ k0 _ hb0
  have hl' : l' = .blk b0 := by
    cases l' with
    | blk b' => simp only [LocLe] at q2; rw [q2]
    | row => simp [LocLe] at q2
  subst hl'
  subst hxs
  cases h1
  refine ⟨#[.pointer (some ⟨b0, 0, none⟩)] ++ (xs.map a.eval).toArray, ?_, by simp [zdc], fun j hj => ?_⟩
  · simp only [execOp, ho, Sem.run_bind, resolve, hgv, Deferred.ofValue, Sem.run_pure, Result.andThen_ok, invoke]
    simp [hP]
  · cases j with
    | zero =>
      have e2 : (#[Value.pointer (some ⟨b0, 0, none⟩)] ++ (xs.map a.eval).toArray).getD 0 undef = .pointer (some ⟨b0, 0, none⟩) := by
        rw [Array.getD_eq_getD_getElem?, Array.getElem?_append_left (by simp)]
        simp
      rw [e2]
      exact .pv _ _ _ _ q1
    | succ j =>
      have hj' : j < xs.length := by simpa [zdc] using hj
      have h2 := zjw (S := S) (w := w) (r := r) (a := a) hx j hj'
      have e2 : (#[Value.pointer (some ⟨b0, 0, none⟩)] ++ (xs.map a.eval).toArray).getD (j + 1) undef = ((xs.map a.eval).toArray).getD j undef := by
        rw [Array.getD_eq_getD_getElem?, Array.getD_eq_getD_getElem?, Array.getElem?_append_right (by simp)]
        simp
      rw [e2]
      simpa using h2
theorem zlT {o : Oper} {f : FuncId} {g : Operand} {xs : List Operand} {ts : Array TypeId} {k0 b0 : Nat} {args : List D} {lo lo' : Ow} {ids ids2 : List Nat} (hP : ∀ vs w, (callFunc f vs).run P w = .ok (.enter f vs) w) (ho : o.op = .call { callee := .value g, args := ⟨xs⟩, argTypes := ts }) (hg : ev fr g = bnd f b0) (hb0 : X.r0 k0 = some (.blk b0)) (hxs : .pv k0 0 :: evs fr xs = args) (hk : hasAll (fun k => look k ow) lo)
    (hi1 : lo.map (·.1) = ids) (hi2 : lo'.map (·.1) = ids2) (hnd : ids2.Nodup) (hsub : ∀ k ∈ ids, k ∈ ids2) (hnew : ∀ k ∈ ids2, k ∉ ids → look k ow = none)
    (hok : (args.map (lendS ids)).all (D.okS ids) = true) (hf1 : lo.all (fun x => x.2.okIn ids) = true) (hf2 : lo'.all (fun x => x.2.okIn ids2) = true) (hf3 : d.okS ids2 = true)
    (hC : CtrO P f (args.map (lendS ids)) lo d lo') (hd : dstOk o.dst n) :
    ∀ F' O', (∀ x ∈ o.op.operands.toList, evF F' x = evF (fF fr) x) → (∀ j ∈ ids2, O' j = fO ow j) → StepAt P X n o F' O' d lo' := by
  intro F' O' he hO a w K' Q' ⟨S, r, hH, hI, hF, hdf, hn, hρ⟩ hK
  obtain ⟨vs, hrun, hsz, hrel⟩ := zjR hP ho hg hb0 hρ hxs he (fun x => zcq hH.glob hF x)
  have hOk : ∀ k o, look k lo = some o → O' k = some o := fun k o h => by
    have hm : k ∈ ids := by rw [← hi1]; exact List.mem_map.2 ⟨(k, o), zaN h, rfl⟩
    exact (hO k (hsub k hm)).trans (zbL hk k o h)
  have hmem : ∀ k, k ∈ ids → ∃ o, look k lo = some o := fun k h => zbd (by rw [hi1]; exact h)
  have hmem' : ∀ k, k ∈ ids2 → ∃ o, look k lo' = some o := fun k h => zbd (by rw [hi2]; exact h)
  have hin : ∀ k o, look k lo = some o → k ∈ ids ∧ o.okIn ids = true := fun k o h => by
    have h1 := zaN h
    rw [List.all_eq_true] at hf1
    exact ⟨by rw [← hi1]; exact List.mem_map.2 ⟨(k, o), h1, rfl⟩, hf1 _ h1⟩
  have hin' : ∀ k o, look k lo' = some o → k ∈ ids2 ∧ o.okIn ids2 = true := fun k o h => by
    have h1 := zaN h
    rw [List.all_eq_true] at hf2
    exact ⟨by rw [← hi2]; exact List.mem_map.2 ⟨(k, o), h1, rfl⟩, hf2 _ h1⟩
  have hblt : ∀ k l b, r k = some l → l.block = some b → b < w.heap.size := fun k l b hl hb => by
    cases ho : O' k with
    | none => rw [hI.dom k ho] at hl; cases hl
    | some o => exact (hI.obj k o ho).blockLt hl hb
  let X' : Ctx := { w0 := w, S0 := S, L := fun b => ∃ k ∈ ids, ∃ l, r k = some l ∧ l.block = some b, r0 := keepR r ids, ids := ids }
  have hH' : Hist X' w S := ⟨rfl, rfl, rfl, Nat.le_refl _, fun _ _ _ => rfl, fun _ _ h => h, fun _ _ _ => rfl, fun _ _ h => .inl h, hH.valid, hH.glob⟩
  have hI' : Inv X' w S X'.r0 (fO lo) := by
    refine ⟨fun k o hk' => ?_, fun k hk' => ?_, fun i j l l' b' hij hl hl' hb' => ?_, fun k l b' hl hb' => ?_⟩
    · obtain ⟨h1, h2⟩ := hin k o hk'
      exact (hI.obj k o (hOk k o hk')).okIn h2 (RhoLe.refl _) (if_pos h1)
    · refine if_neg fun hm => ?_
      obtain ⟨o, ho⟩ := hmem k hm
      rw [show fO lo k = look k lo from rfl, ho] at hk'
      cases hk'
    · have hl : keepR r ids i = some l := hl
      have hl' : keepR r ids j = some l' := hl'
      simp only [keepR] at hl hl'
      split at hl <;> first | (cases hl; done) | skip
      split at hl' <;> first | (cases hl'; done) | skip
      exact hI.apart i j l l' b' hij hl hl' hb'
    · have hl : keepR r ids k = some l := hl
      simp only [keepR] at hl
      split at hl <;> first | (cases hl; done) | skip
      rename_i hm
      exact .inr ⟨k, hm, l, hl, hb'⟩
  have hrel' : ∀ j, j < (args.map (lendS ids)).length → Rel S w X'.r0 ((args.map (lendS ids)).getD j .any) (vs.getD j undef) := by
    intro j hj
    have hj' : j < args.length := by simpa using hj
    have e : (args.map (lendS ids)).getD j .any = lendS ids (args.getD j .any) := by simp [List.getD_eq_getElem?_getD, hj']
    have hokj : (lendS ids (args.getD j .any)).okS ids = true := by
      rw [← e]
      rw [List.all_eq_true] at hok
      refine hok _ ?_
      simp only [List.getD_eq_getElem?_getD, List.getElem?_eq_getElem hj, Option.getD_some]
      exact List.getElem_mem hj
    rw [e]
    exact ((hrel j hj').lendS ids).okS hokj
  refine OW.enter hrun ((hC X' vs hi1.symm hH' hI' (by simpa using hsz) hrel').mono ?_)
  rintro e w' ⟨v, S', r', rfl, g1, g2, g3, g4⟩
  let r2 : Rho := fun k => if k ∈ ids2 then r' k else r k
  have hr2 : RhoLe r r2 := fun k l hl => by
    by_cases hm : k ∈ ids2
    · have hm0 : k ∈ ids := by
        rcases Classical.em (k ∈ ids) with h | h
        · exact h
        · have h0 : O' k = none := (hO k hm).trans (hnew k hm h)
          rw [hI.dom k h0] at hl
          cases hl
      obtain ⟨l', h1, h2⟩ := g4 k l (by show keepR r ids k = some l; rw [keepR, if_pos hm0]; exact hl)
      exact ⟨l', by show (if k ∈ ids2 then r' k else r k) = some l'; rw [if_pos hm]; exact h1, h2⟩
    · exact ⟨l, by show (if k ∈ ids2 then r' k else r k) = some l; rw [if_neg hm]; exact hl, LocLe.refl l⟩
  have hr3 : RhoLe (keepR r' ids2) r2 := fun k l hl => by
    simp only [keepR] at hl
    split at hl <;> first | (cases hl; done) | skip
    rename_i hm
    exact ⟨l, by show (if k ∈ ids2 then r' k else r k) = some l; rw [if_pos hm]; exact hl, LocLe.refl l⟩
  have hXL : ∀ b, X'.L b → X.w0.heap.size ≤ b ∨ X.L b := fun b ⟨k, _, l, hl, hb⟩ => hI.low k l b hl hb
  have hother : ∀ k l b, k ∉ ids2 → r k = some l → l.block = some b → ¬ X'.L b := fun k l b hm hl hb ⟨k', hm', l', hl', hb'⟩ =>
    hI.apart k k' l l' b (fun e => hm (e ▸ hsub k' hm')) hl hl' hb hb'
  refine hK v w' ⟨S', r2, ?_, ?_, zcx (fun t => (hF t).mono g2.sub g2.cell r2 hr2) (hn ▸ hd) ((g1.okS hf3).mono (fun _ _ h => h) (fun _ _ _ => rfl) r2 hr3), by rw [zbk]; exact hdf, by rw [zbP]; exact hn, hρ.trans hr2⟩
  · refine ⟨g2.os.trans hH.os, g2.tape.trans hH.tape, g2.output.trans hH.output, Nat.le_trans hH.size g2.size, fun k hk' hl => ?_, fun b o hb => g2.sub b o (hH.sub b o hb), fun b o hb => (g2.cell b o (hH.sub b o hb)).trans (hH.cell b o hb), fun b o hb => ?_, g2.valid, g2.glob⟩
    · refine (g2.block k (Nat.lt_of_lt_of_le hk' hH.size) fun hx => ?_).trans (hH.block k hk' hl)
      rcases hXL k hx with h | h
      · omega
      · exact hl h
    · rcases g2.new b o hb with h | h | h
      · exact hH.new b o h
      · exact .inr (.inl (Nat.le_trans hH.size h))
      · rcases hXL b h with h | h
        · exact .inr (.inl h)
        · exact .inr (.inr h)
  · have hnd' : (lo'.map (·.1)).Nodup := by rw [hi2]; exact hnd
    have hup : ∀ k, k ∉ ids2 → updO O' lo' k = O' k := fun k hm => by
      rw [zaS hnd', zbc (by rw [hi2]; exact hm)]
    refine ⟨fun k o hk' => ?_, fun k hk' => ?_, fun i j l l' b hij hl hl' hb => ?_, fun k l b hl hb => ?_⟩
    · by_cases hm : k ∈ ids2
      · obtain ⟨o', ho'⟩ := hmem' k hm
        rw [zaS hnd', ho'] at hk'
        obtain rfl : o' = o := Option.some.inj hk'
        exact (g3.obj k o' ho').okIn (hin' k o' ho').2 hr3 (if_pos hm)
      · rw [hup k hm] at hk'
        refine (hI.obj k o hk').keepL g2.sub g2.cell hr2 (if_neg hm) (fun l b hl hb => g2.block b (hblt k l b hl hb) (hother k l b hm hl hb)) (fun b o hs => ?_)
        rcases g2.new b o hs with h | h | h
        · exact .inl h
        · refine .inr fun l hl hb => ?_
          have := hblt k l b hl hb
          have h : w.heap.size ≤ b := h
          omega
        · exact .inr fun l hl hb => hother k l b hm hl hb h
    · by_cases hm : k ∈ ids2
      · obtain ⟨o', ho'⟩ := hmem' k hm
        rw [zaS hnd', ho'] at hk'
        cases hk'
      · rw [hup k hm] at hk'
        exact (if_neg hm).trans (hI.dom k hk')
    · have hl : (if i ∈ ids2 then r' i else r i) = some l := hl
      have hl' : (if j ∈ ids2 then r' j else r j) = some l' := hl'
      by_cases h1 : i ∈ ids2
      · rw [if_pos h1] at hl
        by_cases h2 : j ∈ ids2
        · rw [if_pos h2] at hl'
          exact g3.apart i j l l' b hij hl hl' hb
        · rw [if_neg h2] at hl'
          intro hb'
          rcases g3.low i l b hl hb with h | h
          · have := hblt j l' b hl' hb'
            have h : w.heap.size ≤ b := h
            omega
          · exact hother j l' b h2 hl' hb' h
      · rw [if_neg h1] at hl
        by_cases h2 : j ∈ ids2
        · rw [if_pos h2] at hl'
          intro hb'
          rcases g3.low j l' b hl' hb' with h | h
          · have := hblt i l b hl hb
            have h : w.heap.size ≤ b := h
            omega
          · exact hother i l b h1 hl hb h
        · rw [if_neg h2] at hl'
          exact hI.apart i j l l' b hij hl hl' hb
    · have hl : (if k ∈ ids2 then r' k else r k) = some l := hl
      by_cases h1 : k ∈ ids2
      · rw [if_pos h1] at hl
        rcases g3.low k l b hl hb with h | h
        · exact .inl (Nat.le_trans hH.size h)
        · exact hXL b h
      · rw [if_neg h1] at hl
        exact hI.low k l b hl hb
end
section
variable {X : Ctx} {n : Nat} {all rest : List Oper} {fr : Fr} {ow : Ow} {tr : List (List Nat × List Nat)} {K : Fr → Ow → List (List Nat × List Nat) → Prop}
variable {t : Nat} {ty : TypeId} {ps : String} {af : Array Edge} {d : D} {f : FuncId} {args : List D}
theorem zrX {x : Operand} {k b : Nat} (hb : X.r0 k = some (.blk b)) (hx : ev fr x = .pv k 0) (hn : Nat.blt t n = true)
    (h : CT Tryz.prog X n all rest ((t, bnd f b) :: fr) ow (tr ++ [([], [])]) K) : CT Tryz.prog X n all (⟨some t, .makeFunc (.func f) ⟨[x]⟩ ⟨[]⟩, ty, ps, af, none⟩ :: rest) fr ow tr K :=
  CT.cons (e := ⟨bnd f b, [], []⟩) (.plain rfl (zop (o := ⟨some t, .makeFunc (.func f) ⟨[x]⟩ ⟨[]⟩, ty, ps, af, none⟩) rfl hx hb (show t < n by simpa using hn))) (zaH ..) rfl h
theorem zdl (k0 : Nat) {b0 : Nat} {g : Operand} {xs : List Operand} {ts : Array TypeId} (lo lo' : Ow) (ids ids2 : List Nat) (hi1 : lo.map (·.1) = ids) (hi2 : lo'.map (·.1) = ids2) (hnd : ids2.Nodup) (hsub : ∀ k ∈ ids, k ∈ ids2) (hnew : ∀ k ∈ ids2, k ∉ ids → look k ow = none)
    (hb0 : X.r0 k0 = some (.blk b0)) (hg : ev fr g = bnd f b0) (hxs : .pv k0 0 :: evs fr xs = args) (hn : Nat.blt t n = true) (hP : ∀ vs w, (callFunc f vs).run Tryz.prog w = .ok (.enter f vs) w) (hk : hasAll (fun k => look k ow) lo)
    (hok : (args.map (lendS ids)).all (D.okS ids) = true) (hf1 : lo.all (fun x => x.2.okIn ids) = true) (hf2 : lo'.all (fun x => x.2.okIn ids2) = true) (hf3 : d.okS ids2 = true)
    (hC : CtrO Tryz.prog f (args.map (lendS ids)) lo d lo')
    (h : CT Tryz.prog X n all rest ((t, d) :: fr) (lo' ++ ow) (tr ++ [(ids2, lo'.map (·.1))]) K) : CT Tryz.prog X n all (⟨some t, .call { callee := .value g, args := ⟨xs⟩, argTypes := ts }, ty, ps, af, none⟩ :: rest) fr ow tr K :=
  CT.cons (e := ⟨d, ids2, lo'⟩) (.plain rfl (zlT (o := ⟨some t, .call { callee := .value g, args := ⟨xs⟩, argTypes := ts }, ty, ps, af, none⟩) (ow := ow) hP rfl hg hb0 hxs hk hi1 hi2 hnd hsub hnew hok hf1 hf2 hf3 hC (show t < n by simpa using hn))) (zaH ..) (zmB (by rw [hi2]; exact hnd)) h
end

def rdC (x : J) (n : Nat) (bad : Bool) : List D := [.i .i64 x.kind, .b x.yes, .b x.neg, .s x.dig, .i .i64 x.exp, .s x.text, .sl 8 x.list.length (jF x.list), .sl 1 x.keys.length (txF x.keys), .i .i64 n, .b bad]
def rdO (x : J) (n : Nat) (bad : Bool) : Ow := [(60, .var (rdC x n bad))]
def gK (x : J) (k : Txt) (kd : Int) : J := if (getJ x k).1.kind = kd then (getJ x k).1 else j0
def gN (x : J) (k : Txt) (n : Nat) : Nat := if (getJ x k).2 = true then n + 1 else n
def gB (x : J) (k : Txt) (kd : Int) (must bad : Bool) : Bool := bad || (if (getJ x k).2 = true then !decide ((getJ x k).1.kind = kd) else must)
theorem zhL : Weak (.ag [.i .i64 0, .b false, .b false, .s [], .i .i64 0, .s [], .nilS, .nilS]) (.ag (jP j0)) := by
  rw [← zla]
  exact zcg 0 false false [] 0 []
set_option maxRecDepth 100000 in
set_option maxHeartbeats 4000000 in
theorem zdy (x : J) (k : Txt) (kd : Int) (must : Bool) (n : Nat) (bad : Bool) (hw : jw x ≤ 4194304) (hn : n ≤ 1000) :
    CtrO Tryz.prog 53 [.pv 60 0, .s k, .i .i64 kd, .b must] (rdO x n bad) (.ag (jP (gK x k kd))) (rdO x (gN x k n) (gB x k kd must bad)) := by
  have c := zpS x k hw
  unfold gK gN gB
  generalize getJ x k = r at c ⊢
  obtain ⟨y, ok⟩ := r
  replace c : Ctr Tryz.prog 84 [.ag (jP x), .s k] (.tu [.ag (jP y), .b ok]) := c
  dsimp only
  have fin : ∀ (n' : Nat) (b : Bool), n' = (if ok = true then n + 1 else n) → b = (bad || (if ok = true then !decide (y.kind = kd) else must)) → rdO x n' b = rdO x (if ok = true then n + 1 else n) (bad || (if ok = true then !decide (y.kind = kd) else must)) := fun n' b h1 h2 => by rw [h1, h2]
  by_cases hk : y.kind = kd
  · rw [if_pos hk]
    cases ok with
    | true =>
      rw [← fin (n + 1) bad rfl (by simp [hk])]
      refine zdd (ids := [60]) (ids2 := [60]) Tryz.func53 rfl Tryz.ntmps53 Tryz.results53 rfl rfl rfl (fun _ h => h) rfl rfl fun X hL hX => ?_
      repeat' (first |refine zah (f := 84) rfl rfl Tryz.call84 rfl c ?_|with_reducible (first |refine zag ?_|refine zaa ?_|refine zaf ?_|refine zad ?_|refine zaj ?_|refine zai ?_)|refine zab rfl rfl True.intro ?_|refine zau rfl rfl rfl ?_|refine zam rfl rfl rfl rfl True.intro ?_|refine zas rfl ?_|refine zak rfl ?_|((first |refine zat rfl ?_ ?_|refine zaQ rfl rfl ?_ ?_)<;>intro<;>try (first |(exfalso;omega)))|((first |refine zab rfl rfl ?_ ?_|refine zam rfl rfl rfl rfl ?_ ?_|refine zao rfl rfl ?_ ?_|refine zar rfl ?_ ?_);focus (first |omega|exact le_ rfl|((repeat' refine And.intro ?_ ?_)<;>omega)|((repeat' refine And.intro ?_ ?_)<;>first |rfl|exact Nat.le_refl _|exact le_ rfl)))|refine zeT rfl ?_ ?_|fail)
      all_goals first | exact .of_eq rfl | exact ⟨⟨rfl, trivial⟩⟩
    | false =>
      cases must with
      | true =>
        rw [← fin n true rfl (by simp)]
        refine zdd (ids := [60]) (ids2 := [60]) Tryz.func53 rfl Tryz.ntmps53 Tryz.results53 rfl rfl rfl (fun _ h => h) rfl rfl fun X hL hX => ?_
        repeat' (first |refine zah (f := 84) rfl rfl Tryz.call84 rfl c ?_|with_reducible (first |refine zag ?_|refine zaa ?_|refine zaf ?_|refine zad ?_|refine zaj ?_|refine zai ?_)|refine zab rfl rfl True.intro ?_|refine zau rfl rfl rfl ?_|refine zam rfl rfl rfl rfl True.intro ?_|refine zas rfl ?_|refine zak rfl ?_|((first |refine zat rfl ?_ ?_)<;>intro<;>try (first |(exfalso;omega)))|((first |refine zab rfl rfl ?_ ?_|refine zao rfl rfl ?_ ?_|refine zar rfl ?_ ?_);focus (first |exact le_ rfl|((repeat' refine And.intro ?_ ?_)<;>omega)|((repeat' refine And.intro ?_ ?_)<;>first |rfl|exact Nat.le_refl _)))|refine zeT rfl ?_ ?_|fail)
        all_goals first | exact .of_eq rfl | exact ⟨⟨rfl, trivial⟩⟩
      | false =>
        rw [← fin n bad rfl (by simp)]
        refine zdd (ids := [60]) (ids2 := [60]) Tryz.func53 rfl Tryz.ntmps53 Tryz.results53 rfl rfl rfl (fun _ h => h) rfl rfl fun X hL hX => ?_
        repeat' (first |refine zah (f := 84) rfl rfl Tryz.call84 rfl c ?_|with_reducible (first |refine zag ?_|refine zaa ?_|refine zaf ?_|refine zad ?_|refine zaj ?_|refine zai ?_)|refine zab rfl rfl True.intro ?_|refine zau rfl rfl rfl ?_|refine zam rfl rfl rfl rfl True.intro ?_|refine zak rfl ?_|((first |refine zat rfl ?_ ?_)<;>intro<;>try (first |(exfalso;omega)))|((first |refine zab rfl rfl ?_ ?_|refine zao rfl rfl ?_ ?_|refine zar rfl ?_ ?_);focus (first |exact le_ rfl|((repeat' refine And.intro ?_ ?_)<;>omega)|((repeat' refine And.intro ?_ ?_)<;>first |rfl|exact Nat.le_refl _)))|refine zeT rfl ?_ ?_|fail)
        all_goals first | exact .of_eq rfl | exact ⟨⟨rfl, trivial⟩⟩
  · rw [if_neg hk]
    cases ok with
    | true =>
      rw [← fin (n + 1) true rfl (by simp [hk])]
      refine zdd (ids := [60]) (ids2 := [60]) Tryz.func53 rfl Tryz.ntmps53 Tryz.results53 rfl rfl rfl (fun _ h => h) rfl rfl fun X hL hX => ?_
      repeat' (first |refine zah (f := 84) rfl rfl Tryz.call84 rfl c ?_|with_reducible (first |refine zag ?_|refine zaa ?_|refine zaf ?_|refine zad ?_|refine zaj ?_|refine zal ?_)|refine zab rfl rfl True.intro ?_|refine zau rfl rfl rfl ?_|refine zce rfl rfl rfl ?_|refine zam rfl rfl rfl rfl True.intro ?_|refine zas rfl ?_|((first |refine zat rfl ?_ ?_|refine zaQ rfl rfl ?_ ?_)<;>intro<;>try (first |(exfalso;omega)))|((first |refine zab rfl rfl ?_ ?_|refine zam rfl rfl rfl rfl ?_ ?_|refine zao rfl rfl ?_ ?_|refine zar rfl ?_ ?_);focus (first |omega|exact le_ rfl|((repeat' refine And.intro ?_ ?_)<;>omega)|((repeat' refine And.intro ?_ ?_)<;>first |rfl|exact Nat.le_refl _|exact le_ rfl)))|refine zeT rfl ?_ ?_|fail)
      all_goals first | exact zhL | exact ⟨⟨rfl, trivial⟩⟩
    | false =>
      cases must with
      | true =>
        rw [← fin n true rfl (by simp)]
        refine zdd (ids := [60]) (ids2 := [60]) Tryz.func53 rfl Tryz.ntmps53 Tryz.results53 rfl rfl rfl (fun _ h => h) rfl rfl fun X hL hX => ?_
        repeat' (first |refine zah (f := 84) rfl rfl Tryz.call84 rfl c ?_|with_reducible (first |refine zag ?_|refine zaa ?_|refine zaf ?_|refine zad ?_|refine zaj ?_|refine zai ?_|refine zal ?_)|refine zab rfl rfl True.intro ?_|refine zau rfl rfl rfl ?_|refine zam rfl rfl rfl rfl True.intro ?_|refine zas rfl ?_|refine zak rfl ?_|((first |refine zat rfl ?_ ?_)<;>intro<;>try (first |(exfalso;omega)))|((first |refine zab rfl rfl ?_ ?_|refine zao rfl rfl ?_ ?_|refine zar rfl ?_ ?_);focus (first |exact le_ rfl|((repeat' refine And.intro ?_ ?_)<;>omega)|((repeat' refine And.intro ?_ ?_)<;>first |rfl|exact Nat.le_refl _)))|refine zeT rfl ?_ ?_|fail)
        all_goals first | exact zhL | exact ⟨⟨rfl, trivial⟩⟩
      | false =>
        rw [← fin n bad rfl (by simp)]
        refine zdd (ids := [60]) (ids2 := [60]) Tryz.func53 rfl Tryz.ntmps53 Tryz.results53 rfl rfl rfl (fun _ h => h) rfl rfl fun X hL hX => ?_
        repeat' (first |refine zah (f := 84) rfl rfl Tryz.call84 rfl c ?_|with_reducible (first |refine zag ?_|refine zaa ?_|refine zaf ?_|refine zad ?_|refine zaj ?_|refine zai ?_|refine zal ?_)|refine zab rfl rfl True.intro ?_|refine zau rfl rfl rfl ?_|refine zam rfl rfl rfl rfl True.intro ?_|refine zak rfl ?_|((first |refine zat rfl ?_ ?_)<;>intro<;>try (first |(exfalso;omega)))|((first |refine zab rfl rfl ?_ ?_|refine zao rfl rfl ?_ ?_|refine zar rfl ?_ ?_);focus (first |exact le_ rfl|((repeat' refine And.intro ?_ ?_)<;>omega)|((repeat' refine And.intro ?_ ?_)<;>first |rfl|exact Nat.le_refl _)))|refine zeT rfl ?_ ?_|fail)
        all_goals first | exact zhL | exact ⟨⟨rfl, trivial⟩⟩

theorem zcZ (x : J) (k : Txt) (must : Bool) (n : Nat) (bad : Bool) (hw : jw x ≤ 4194304) (hn : n ≤ 1000) :
    CtrO Tryz.prog 51 [.pv 60 0, .s k, .b must] (rdO x n bad) (.s (gK x k 3).text) (rdO x (gN x k n) (gB x k 3 must bad)) := by
  have c := zdy x k 3 must n bad hw hn
  generalize gK x k 3 = y at c ⊢
  generalize gN x k n = n' at c ⊢
  generalize gB x k 3 must bad = b' at c ⊢
  refine zaK (ids := [60]) Tryz.func51 rfl Tryz.ntmps51 Tryz.results51 rfl rfl rfl rfl rfl fun X hL hX => ?_
  repeat' (first |refine zav (f := 53) 60 rfl rfl Tryz.call53 rfl rfl rfl rfl rfl c ?_|with_reducible (first |refine zag ?_|refine zaa ?_|refine zaf ?_|refine zad ?_|refine zaj ?_)|refine zab rfl rfl True.intro ?_|((first |refine zab rfl rfl ?_ ?_);focus (first |exact le_ rfl|((repeat' refine And.intro ?_ ?_)<;>omega)))|refine zbe rfl rfl ?_|fail)
  all_goals exact ⟨⟨rfl, trivial⟩⟩
theorem zgm (x : J) (k : Txt) (n : Nat) (bad : Bool) (hw : jw x ≤ 4194304) (hn : n ≤ 1000) :
    CtrO Tryz.prog 85 [.pv 60 0, .s k] (rdO x n bad) (.b (gK x k 1).yes) (rdO x (gN x k n) (gB x k 1 false bad)) := by
  have c := zdy x k 1 false n bad hw hn
  generalize gK x k 1 = y at c ⊢
  generalize gN x k n = n' at c ⊢
  generalize gB x k 1 false bad = b' at c ⊢
  refine zaK (ids := [60]) Tryz.func85 rfl Tryz.ntmps85 Tryz.results85 rfl rfl rfl rfl rfl fun X hL hX => ?_
  repeat' (first |refine zav (f := 53) 60 rfl rfl Tryz.call53 rfl rfl rfl rfl rfl c ?_|with_reducible (first |refine zag ?_|refine zaa ?_|refine zaf ?_|refine zad ?_|refine zaj ?_)|refine zab rfl rfl True.intro ?_|((first |refine zab rfl rfl ?_ ?_);focus (first |exact le_ rfl|((repeat' refine And.intro ?_ ?_)<;>omega)))|refine zbe rfl rfl ?_|fail)
  all_goals exact ⟨⟨rfl, trivial⟩⟩
def whJ (y : J) : Int × Bool := intF y.neg y.dig y.exp
theorem zev (x : J) (k : Txt) (n : Nat) (bad : Bool) (hw : jw x ≤ 4194304) (hn : n ≤ 1000) (hd : (gK x k 2).dig.length ≤ 1048576) :
    CtrO Tryz.prog 52 [.pv 60 0, .s k] (rdO x n bad) (.i .i64 (whJ (gK x k 2)).1) (rdO x (gN x k n) (gB x k 2 true bad || !(whJ (gK x k 2)).2)) := by
  have c := zdy x k 2 true n bad hw hn
  generalize gK x k 2 = y at c hd ⊢
  generalize gN x k n = n' at c ⊢
  generalize gB x k 2 true bad = b' at c ⊢
  have c2 := zrs y.neg y.dig y.exp hd
  unfold whJ
  generalize intF y.neg y.dig y.exp = r at c2 ⊢
  obtain ⟨m, ok⟩ := r
  replace c2 : Ctr Tryz.prog 83 [dcD y.neg y.dig y.exp] (.tu [.i .i64 m, .b ok]) := c2
  cases ok with
  | true =>
    rw [show (b' || !(m, true).2) = b' from Bool.or_false _]
    refine zaK (ids := [60]) Tryz.func52 rfl Tryz.ntmps52 Tryz.results52 rfl rfl rfl rfl rfl fun X hL hX => ?_
    repeat' (first |refine zav (f := 53) 60 rfl rfl Tryz.call53 rfl rfl rfl rfl rfl c ?_|refine zah (f := 83) rfl rfl Tryz.call83 rfl c2 ?_|with_reducible (first |refine zag ?_|refine zaa ?_|refine zaf ?_|refine zad ?_|refine zaj ?_|refine zai ?_)|refine zab rfl rfl True.intro ?_|refine zak rfl ?_|((first |refine zab rfl rfl ?_ ?_);focus (first |exact le_ rfl|((repeat' refine And.intro ?_ ?_)<;>omega)))|refine zbe rfl rfl ?_|fail)
    all_goals exact ⟨⟨rfl, trivial⟩⟩
  | false =>
    rw [show (b' || !(m, false).2) = true from Bool.or_true _]
    refine zaK (ids := [60]) Tryz.func52 rfl Tryz.ntmps52 Tryz.results52 rfl rfl rfl rfl rfl fun X hL hX => ?_
    repeat' (first |refine zav (f := 53) 60 rfl rfl Tryz.call53 rfl rfl rfl rfl rfl c ?_|refine zah (f := 83) rfl rfl Tryz.call83 rfl c2 ?_|with_reducible (first |refine zag ?_|refine zaa ?_|refine zaf ?_|refine zad ?_|refine zaj ?_)|refine zab rfl rfl True.intro ?_|refine zas rfl ?_|((first |refine zab rfl rfl ?_ ?_|refine zar rfl ?_ ?_);focus (first |exact le_ rfl|((repeat' refine And.intro ?_ ?_)<;>omega)|((repeat' refine And.intro ?_ ?_)<;>first |rfl|exact Nat.le_refl _)))|refine zbe rfl rfl ?_|fail)
    all_goals exact ⟨⟨rfl, trivial⟩⟩
def strsJ (l : List J) : List Txt × Bool := if l.all (fun y => decide (y.kind = 3)) = true then (l.map J.text, true) else ([], false)
def strsD (r : List Txt × Bool) : D := .tu [.sl 1 r.1.length (txF r.1), .b r.2]
theorem zlc {l : List J} {i : Nat} (h : i < l.length) (hk : ¬ (l.getD i j0).kind = 3) : strsJ l = ([], false) := by
  unfold strsJ
  rw [if_neg]
  intro q
  rw [List.all_eq_true] at q
  have := q l[i] (List.getElem_mem h)
  rw [decide_eq_true_eq] at this
  exact hk (by rw [show l.getD i j0 = l[i] by simp [List.getD_eq_getElem?_getD, h]]; exact this)
theorem zkl {l : List J} (h : ∀ i, i < l.length → (l.getD i j0).kind = 3) : strsJ l = (l.map J.text, true) := by
  unfold strsJ
  rw [if_pos]
  rw [List.all_eq_true]
  intro y hy
  obtain ⟨i, hi, rfl⟩ := List.mem_iff_getElem.1 hy
  have := h i hi
  rw [show l.getD i j0 = l[i] by simp [List.getD_eq_getElem?_getD, hi]] at this
  exact decide_eq_true this
theorem zkg : Weak (.tu [.nilS, .b false]) (strsD ([], false)) := .tu2 (.nil 1 _) (.refl _)
set_option maxRecDepth 100000 in
set_option maxHeartbeats 4000000 in
theorem zeV (x : J) (hw : jw x ≤ 4194304) : Ctr Tryz.prog 87 [.ag (jP x)] (strsD (strsJ x.list)) := by
  refine Ctr.weak1 ?_ (zme x)
  have hlen : x.list.length ≤ 4194304 := by
    have := zbZ x.list
    have := zeq x
    omega
  obtain ⟨kd, b, g, d, e, t, l, ks⟩ := x
  show Ctr Tryz.prog 87 [.ag [.i .i64 kd, .b b, .b g, .s d, .i .i64 e, .s t, .sl 8 l.length (jG l), .sl 1 ks.length (txF ks)]] (strsD (strsJ l))
  replace hlen : l.length ≤ 4194304 := hlen
  clear hw
  refine zay Tryz.func87 rfl Tryz.ntmps87 Tryz.results87 rfl rfl fun X hL hX => ?_
  repeat' (first |with_reducible (first |refine zag ?_|refine zaa ?_|refine zaf ?_|refine zad ?_|refine zae ?_)|refine zab rfl rfl True.intro ?_|((first |refine zab rfl rfl ?_ ?_|refine zao rfl rfl ?_ ?_);focus (first |exact le_ rfl|((repeat' refine And.intro ?_ ?_)<;>omega)|((repeat' refine And.intro ?_ ?_)<;>first |rfl)))|fail)
  refine T.adopt 4 104 9 1 (txF []) rfl rfl ?_
  refine T.loop hL (fun i : Nat => [(4, .gs 104 1 ((l.take i).map J.text).length (txF ((l.take i).map J.text))), (8, .sl 8 l.length (jG l)), (9, .i .i64 l.length), (10, .i .i64 i)]) (fun i => [(104, .row 9 1 ((l.take i).map J.text).length)])
    (fun i => i ≤ l.length ∧ ((l.take i).map J.text).length = i ∧ ∀ j, j < i → (l.getD j j0).kind = 3) (fun i => l.length - i) 0 ⟨Nat.zero_le _, by simp, fun j h => absurd h (Nat.not_lt_zero _)⟩
    ⟨⟨rfl, rfl, rfl, rfl, trivial⟩, ⟨rfl, trivial⟩, rfl, by rw [hX]; simp⟩ ?_
  rintro i ⟨g1, g2, g3⟩
  try dsimp only at g1 g2 g3 ⊢
  have hnat : (i : Int).toNat = i := Int.toNat_natCast i
  by_cases hil : i < l.length
  rotate_left
  · have hil' : ¬ (i : Int) < l.length := by omega
    have ea : l.take i = l := List.take_of_length_le (by omega)
    rw [zkl (fun j hj => g3 j (by omega)), ea]
    repeat' (first |with_reducible (first |refine zag ?_|refine zaa ?_|refine zaf ?_|refine zad ?_|refine zaj ?_|refine zaz ?_|refine zaA ?_)|refine zab rfl rfl True.intro ?_|((first |refine zac rfl ?_ ?_)<;>intro<;>try (first |(exfalso;omega)))|refine zaJ rfl ?_|refine zaB rfl ?_|fail)
    all_goals exact .of_eq rfl
  have hil' : (i : Int) < l.length := by omega
  by_cases hk : (l.getD i j0).kind = 3
  · have e := zdt (f := J.text) (d := j0) hil
    have e1 := zeL ((l.take i).map J.text) (l.getD (i : Int).toNat j0).text (chunk 1 [.s (l.getD (i : Int).toNat j0).text]) rfl
    have g4 : ((l.take (i + 1)).map J.text).length = ((l.take i).map J.text).length + 1 := by rw [e, List.length_append]; rfl
    have hk' : (l.getD (i : Int).toNat j0).kind = 3 := by rw [hnat]; exact hk
    have g5 : ∀ j, j < i + 1 → (l.getD j j0).kind = 3 := fun j hj => by
      by_cases q : j = i
      · rw [q]; exact hk
      · exact g3 j (by omega)
    rw [hnat] at e1
    clear g3
    repeat' (first |with_reducible (first |refine zag ?_|refine zaa ?_|refine zaf ?_|refine zad ?_|refine zai ?_|refine zae ?_|refine zaq ?_)|refine zab rfl rfl True.intro ?_|((first |refine zac rfl ?_ ?_|refine zat rfl ?_ ?_)<;>intro<;>try (first |(exfalso;omega)))|((first |refine zab rfl rfl ?_ ?_|refine zao rfl rfl ?_ ?_|refine zar rfl ?_ ?_);focus (first |omega|exact le_ rfl|((repeat' refine And.intro ?_ ?_)<;>omega)|((repeat' refine And.intro ?_ ?_)<;>first |omega|rfl|exact Nat.le_refl _)))|fail)
    all_goals exact ⟨i + 1, ⟨by omega, by omega, g5⟩, by omega, ⟨by rw [g4, e, ← e1]; rfl, rfl, rfl, rfl, trivial⟩, ⟨by rw [g4]; rfl, trivial⟩, rfl, by rw [hX]; simp⟩
  · rw [zlc hil hk]
    have hk' : ¬ (l.getD (i : Int).toNat j0).kind = 3 := by rw [hnat]; exact hk
    clear g3
    repeat' (first |with_reducible (first |refine zag ?_|refine zaa ?_|refine zaf ?_|refine zad ?_|refine zaj ?_|refine zai ?_|refine zae ?_|refine zal ?_|refine zap ?_)|refine zab rfl rfl True.intro ?_|((first |refine zac rfl ?_ ?_|refine zat rfl ?_ ?_)<;>intro<;>try (first |(exfalso;omega)))|((first |refine zab rfl rfl ?_ ?_|refine zao rfl rfl ?_ ?_|refine zar rfl ?_ ?_);focus (first |omega|exact le_ rfl|((repeat' refine And.intro ?_ ?_)<;>omega)|((repeat' refine And.intro ?_ ?_)<;>first |rfl|exact Nat.le_refl _)))|refine zaB rfl ?_|fail)
    all_goals exact zkg
theorem zhP (x : J) (k : Txt) (n : Nat) (bad : Bool) (hw : jw x ≤ 4194304) (hn : n ≤ 1000) (hy : jw (gK x k 4) ≤ 4194304) :
    CtrO Tryz.prog 86 [.pv 60 0, .s k] (rdO x n bad) (.sl 1 (strsJ (gK x k 4).list).1.length (txF (strsJ (gK x k 4).list).1)) (rdO x (gN x k n) (gB x k 4 false bad || !(strsJ (gK x k 4).list).2)) := by
  have c := zdy x k 4 false n bad hw hn
  have c2 := zeV (gK x k 4) hy
  generalize gK x k 4 = y at c c2 ⊢
  generalize gN x k n = n' at c ⊢
  generalize gB x k 4 false bad = b' at c ⊢
  generalize strsJ y.list = r at c2 ⊢
  obtain ⟨l, ok⟩ := r
  replace c2 : Ctr Tryz.prog 87 [.ag (jP y)] (.tu [.sl 1 l.length (txF l), .b ok]) := c2
  cases ok with
  | true =>
    rw [show (b' || !(l, true).2) = b' from Bool.or_false _]
    refine zaK (ids := [60]) Tryz.func86 rfl Tryz.ntmps86 Tryz.results86 rfl rfl rfl rfl rfl fun X hL hX => ?_
    repeat' (first |refine zav (f := 53) 60 rfl rfl Tryz.call53 rfl rfl rfl rfl rfl c ?_|refine zah (f := 87) rfl rfl Tryz.call87 rfl c2 ?_|with_reducible (first |refine zag ?_|refine zaa ?_|refine zaf ?_|refine zad ?_|refine zaj ?_|refine zai ?_)|refine zab rfl rfl True.intro ?_|refine zak rfl ?_|refine zbe rfl rfl ?_|fail)
    all_goals exact ⟨⟨rfl, trivial⟩⟩
  | false =>
    rw [show (b' || !(l, false).2) = true from Bool.or_true _]
    refine zaK (ids := [60]) Tryz.func86 rfl Tryz.ntmps86 Tryz.results86 rfl rfl rfl rfl rfl fun X hL hX => ?_
    repeat' (first |refine zav (f := 53) 60 rfl rfl Tryz.call53 rfl rfl rfl rfl rfl c ?_|refine zah (f := 87) rfl rfl Tryz.call87 rfl c2 ?_|with_reducible (first |refine zag ?_|refine zaa ?_|refine zaf ?_|refine zad ?_|refine zaj ?_)|refine zab rfl rfl True.intro ?_|refine zas rfl ?_|((first |refine zar rfl ?_ ?_);focus (first |((repeat' refine And.intro ?_ ?_)<;>omega)|((repeat' refine And.intro ?_ ?_)<;>first |rfl|exact Nat.le_refl _)))|refine zbe rfl rfl ?_|fail)
    all_goals exact ⟨⟨rfl, trivial⟩⟩
def dnB (x : J) (n : Nat) (bad : Bool) : Bool := decide (bad = false ∧ x.kind = 5 ∧ n = x.keys.length)
set_option maxRecDepth 100000 in
set_option maxHeartbeats 4000000 in
theorem zig (x : J) (n : Nat) (bad : Bool) (hw : jw x ≤ 4194304) : CtrO Tryz.prog 55 [.pv 60 0] (rdO x n bad) (.b (dnB x n bad)) (rdO x n bad) := by
  have hk : x.keys.length ≤ 4194304 := by
    have := zeq x
    omega
  unfold dnB
  cases bad with
  | true =>
    rw [decide_eq_false (fun h => by cases h.1)]
    refine zaK (ids := [60]) Tryz.func55 rfl Tryz.ntmps55 Tryz.results55 rfl rfl rfl rfl rfl fun X hL hX => ?_
    repeat' (first |with_reducible (first |refine zag ?_|refine zaa ?_|refine zaf ?_|refine zad ?_|refine zaj ?_|refine zaD ?_)|refine zab rfl rfl True.intro ?_|refine zau rfl rfl rfl ?_|((first |refine zab rfl rfl ?_ ?_);focus (first |exact le_ rfl|((repeat' refine And.intro ?_ ?_)<;>omega)))|with_reducible refine ⟨by kernel_rfl, ?_⟩|refine zbe rfl ?_ ?_|fail)
    all_goals first | rfl | exact ⟨⟨rfl, trivial⟩⟩
  | false =>
    by_cases h1 : x.kind = 5
    · by_cases h2 : n = x.keys.length
      · have h2' : (n : Int) = x.keys.length := by omega
        rw [decide_eq_true ⟨rfl, h1, h2⟩]
        refine zaK (ids := [60]) Tryz.func55 rfl Tryz.ntmps55 Tryz.results55 rfl rfl rfl rfl rfl fun X hL hX => ?_
        repeat' (first |with_reducible (first |refine zag ?_|refine zaa ?_|refine zaf ?_|refine zad ?_|refine zaj ?_|refine zaD ?_)|refine zab rfl rfl True.intro ?_|refine zam rfl rfl rfl rfl True.intro ?_|((first |refine zan rfl rfl ?_ ?_|refine zaF rfl rfl ?_ ?_)<;>intro<;>try (first |(rename_i hz;exact ft_ hz)|(exfalso;omega)))|((first |refine zab rfl rfl ?_ ?_|refine zam rfl rfl rfl rfl ?_ ?_);focus (first |exact le_ rfl|((repeat' refine And.intro ?_ ?_)<;>omega)))|with_reducible refine ⟨by kernel_rfl, ?_⟩|refine zbe rfl ?_ ?_|fail)
        all_goals first | rfl | exact ⟨⟨rfl, trivial⟩⟩ | exact congrArg D.b (decide_eq_true h2')
      · have h2' : ¬ (n : Int) = x.keys.length := by omega
        rw [decide_eq_false (fun h => h2 h.2.2)]
        refine zaK (ids := [60]) Tryz.func55 rfl Tryz.ntmps55 Tryz.results55 rfl rfl rfl rfl rfl fun X hL hX => ?_
        repeat' (first |with_reducible (first |refine zag ?_|refine zaa ?_|refine zaf ?_|refine zad ?_|refine zaj ?_|refine zaD ?_)|refine zab rfl rfl True.intro ?_|refine zam rfl rfl rfl rfl True.intro ?_|((first |refine zan rfl rfl ?_ ?_|refine zaF rfl rfl ?_ ?_)<;>intro<;>try (first |(rename_i hz;exact ft_ hz)|(exfalso;omega)))|((first |refine zab rfl rfl ?_ ?_|refine zam rfl rfl rfl rfl ?_ ?_);focus (first |exact le_ rfl|((repeat' refine And.intro ?_ ?_)<;>omega)))|with_reducible refine ⟨by kernel_rfl, ?_⟩|refine zbe rfl ?_ ?_|fail)
        all_goals first | rfl | exact ⟨⟨rfl, trivial⟩⟩ | exact congrArg D.b (decide_eq_false h2')
    · rw [decide_eq_false (fun h => h1 h.2.1)]
      refine zaK (ids := [60]) Tryz.func55 rfl Tryz.ntmps55 Tryz.results55 rfl rfl rfl rfl rfl fun X hL hX => ?_
      repeat' (first |with_reducible (first |refine zag ?_|refine zaa ?_|refine zaf ?_|refine zad ?_|refine zaj ?_|refine zaD ?_)|refine zab rfl rfl True.intro ?_|refine zau rfl rfl rfl ?_|refine zam rfl rfl rfl rfl True.intro ?_|((first |refine zan rfl rfl ?_ ?_|refine zaF rfl rfl ?_ ?_)<;>intro<;>try (first |(rename_i hz;exact ft_ hz)|(exfalso;omega)))|((first |refine zab rfl rfl ?_ ?_|refine zam rfl rfl rfl rfl ?_ ?_);focus (first |exact le_ rfl|((repeat' refine And.intro ?_ ?_)<;>omega)))|with_reducible refine ⟨by kernel_rfl, ?_⟩|refine zbe rfl ?_ ?_|fail)
      all_goals first | rfl | exact ⟨⟨rfl, trivial⟩⟩
end Go.Proofs.YtcajofhafpkbdaaGreatDoor.Flow
