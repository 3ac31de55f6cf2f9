/- The texts K38, Laid, LaidD, LaidH, one behind the other. -/
import Derived.Test.YtkkaamhocpmhkaaGreatDoorSA8
import Derived.Test.YtkkaamhocpmhkaaGreatDoorSA10
import Derived.Test.YtkkaamhocpmhkaaGreatDoorSA22
import Derived.LaidLaws
import Derived.MakeChecks
import Derived.Lay
import Derived.Shelf.LaysM
namespace Go.Proofs.YtkkaamhocpmhkaaGreatDoor.Flow
open Go
theorem zkJ (r : ReqR) (body kind : List UInt8) (st : Int) (hb : body.length ≤ 400) : (ansR r body kind st).hs.length ≤ 1000000 ∧ (ansR r body kind st).body.length ≤ 1000000 := by
  have lW := zdw body
  unfold ansR
  split
  · exact ⟨by show 0 ≤ _; omega, by show 0 ≤ _; omega⟩
  · split
    · split
      · exact ⟨by show 2 ≤ _; omega, by show 0 ≤ _; omega⟩
      · unfold fullR
        refine ⟨?_, ?_⟩
        · show (_ ++ _ ++ [_]).length ≤ _
          simp only [List.length_append, List.length_cons, List.length_nil]
          split <;> simp <;> omega
        · show (if _ then _ else _ : List UInt8).length ≤ _
          split
          · show 0 ≤ _
            omega
          · split <;> omega
    · exact ⟨by show 1 ≤ _; omega, by show 0 ≤ _; omega⟩
set_option maxRecDepth 100000 in
set_option maxHeartbeats 8000000 in
theorem zeF (r : ReqR) (body kind : List UInt8) (st : Int) (x : RspR) (hb : body.length ≤ 1048576) (hk : kind.length ≤ 1048576) (hr : r.method.length ≤ 1048576 ∧ r.tags.length ≤ 1048576)
    (hx : x.hs.length ≤ 1048576 ∧ x.body.length ≤ 1048576 ∧ (-9223372036854775808 ≤ x.st ∧ x.st < 9223372036854775808) ∧ ∀ i, (x.hs.getD i ([], [])).1.length ≤ 1048576 ∧ (x.hs.getD i ([], [])).2.length ≤ 1048576) :
    Ctr Tryz.prog 6 [.ag (reqP r), .sl 1 body.length (bytesF body), .s kind, .i .i64 st, .ag (rspP x)] (.b true) := by
  have cl := zjw
  obtain ⟨hr1, hr2⟩ := hr
  obtain ⟨hx1, hx2, hx3, hx4⟩ := hx
  refine zaE Tryz.func6 rfl Tryz.ntmps6 Tryz.results6 rfl rfl fun X hL hX => ?_
  by_cases hg : 400 < body.length ∨ 100 < kind.length + r.method.length ∨ 20 < r.tags.length ∨ 20 < x.hs.length ∨ 400 < x.body.length
  · obtain ⟨method, path, gz, any, tags⟩ := r
    obtain ⟨xst, hs, xb⟩ := x
    dsimp only at hr1 hr2 hx1 hx2 hx4 hg
    unfold reqP rspP
    dsimp only
    repeat' (first |refine zaj (f := 23) rfl rfl Tryz.call23 rfl cl ?_|with_reducible (first |refine zag ?_|refine zaa ?_|refine zaf ?_|refine zac ?_|refine zar ?_|refine zaB ?_)|refine zab rfl rfl True.intro ?_|refine zay rfl rfl rfl ?_|refine zam rfl rfl rfl rfl True.intro ?_|refine zas rfl ?_|((first |refine zad rfl ?_ ?_|refine zal rfl rfl ?_ ?_)<;>intro<;>try (first |(exfalso;omega)))|((first |refine zam rfl rfl rfl rfl ?_ ?_|refine zaw rfl rfl ?_ ?_);focus (first |omega|exact le_ rfl|((repeat' refine And.intro ?_ ?_)<;>omega)|((repeat' refine And.intro ?_ ?_)<;>first |rfl)))|refine zau rfl rfl|fail)
  · have cA := zig r body kind st (by omega) (by omega)
    have cR := zgK r body kind st (by omega) (by omega)
    have hf := zkJ r body kind st (by omega)
    have cS := zhF (ansR r body kind st) hf.1 hf.2
    have cB := zgB x hx3 (by omega) (by omega)
    have cD := zfD x hx3 (by omega) (by omega)
    generalize ansR r body kind st = A at *
    generalize sentB x = SB at *
    obtain ⟨method, path, gz, any, tags⟩ := r
    obtain ⟨xst, hs, xb⟩ := x
    dsimp only at hr1 hr2 hx1 hx2 hx4 hg cB cD
    unfold reqP rspP
    dsimp only
    repeat' (first |with_reducible (first |refine zag ?_|refine zaa ?_|refine zaf ?_|refine zac ?_|refine zah ?_|refine zae ?_)|refine zab rfl rfl True.intro ?_|refine zam rfl rfl rfl rfl True.intro ?_|((first |refine zad rfl ?_ ?_|refine zal rfl rfl ?_ ?_)<;>intro<;>try (first |(exfalso;omega)))|((first |refine zam rfl rfl rfl rfl ?_ ?_|refine zaw rfl rfl ?_ ?_);focus (first |omega|exact le_ rfl|((repeat' refine And.intro ?_ ?_)<;>omega)|((repeat' refine And.intro ?_ ?_)<;>first |rfl)))|fail)
    all_goals try (exfalso; omega)
    refine T.loop hL (fun i : Nat => [(1, .sl 1 body.length (bytesF body)), (2, .s kind), (3, .i .i64 st), (5, .pv 5 0), (9, .pv 9 0), (11, .i .i64 i)])
      (fun i => [(5, .var (reqP ⟨method, path, gz, any, tags⟩)), (9, .var (rspP ⟨xst, hs, xb⟩))]) (fun i => i ≤ hs.length ∧ ∀ k, k < i → (hs.getD k ([], [])).1.length + (hs.getD k ([], [])).2.length ≤ 100) (fun i => hs.length - i) 0 ⟨Nat.zero_le _, fun k hk => by omega⟩
      ⟨⟨rfl, rfl, rfl, rfl, rfl, rfl, trivial⟩, ⟨rfl, rfl, trivial⟩, rfl, by rw [hX]; simp⟩ ?_
    rintro i ⟨g1, g2⟩
    try dsimp only at g1 g2 ⊢
    have hnat : (i : Int).toNat = i := Int.toNat_natCast i
    have hxi := hx4 i
    by_cases hi : i < hs.length
    · have hi' : (i : Int) < (hs.length : Int) := by omega
      unfold reqP rspP
      dsimp only
      by_cases hh : (hs.getD i ([], [])).1.length + (hs.getD i ([], [])).2.length ≤ 100
      · have g3 : ∀ k, k < i + 1 → (hs.getD k ([], [])).1.length + (hs.getD k ([], [])).2.length ≤ 100 := fun k hk => by
          by_cases h : k = i
          · subst h; exact hh
          · exact g2 k (by omega)
        have hh2 : (hs.getD (i : Int).toNat ([], [])).1.length + (hs.getD (i : Int).toNat ([], [])).2.length ≤ 100 := by rw [hnat]; exact hh
        repeat' (first |with_reducible (first |refine zag ?_|refine zaa ?_|refine zaf ?_|refine zac ?_|refine zah ?_|refine zae ?_|refine zai ?_|refine zaH ?_)|refine zab rfl rfl True.intro ?_|((first |refine zad rfl ?_ ?_)<;>intro<;>try (first |(exfalso;omega)))|((first |refine zab rfl rfl ?_ ?_);focus (first |(simp only [Int.toNat_natCast];omega)|omega|exact le_ rfl|((repeat' refine And.intro ?_ ?_)<;>omega)))|with_reducible refine ⟨by kernel_rfl, ?_⟩|fail)
        all_goals first
          | exact ⟨i + 1, ⟨by omega, g3⟩, by omega, ⟨rfl, rfl, rfl, rfl, rfl, rfl, trivial⟩, ⟨rfl, rfl, trivial⟩, rfl, by rw [hX]; simp⟩
          | (exfalso; omega)
          | trace_state
      · have hh2 : ¬ (hs.getD (i : Int).toNat ([], [])).1.length + (hs.getD (i : Int).toNat ([], [])).2.length ≤ 100 := by rw [hnat]; exact hh
        repeat' (first |refine zaj (f := 23) rfl rfl Tryz.call23 rfl cl ?_|with_reducible (first |refine zag ?_|refine zaa ?_|refine zaf ?_|refine zac ?_|refine zar ?_|refine zah ?_|refine zae ?_|refine zaB ?_|refine zaO ?_|refine zaH ?_)|refine zab rfl rfl True.intro ?_|((first |refine zad rfl ?_ ?_)<;>intro<;>try (first |(exfalso;omega)))|((first |refine zab rfl rfl ?_ ?_);focus (first |(simp only [Int.toNat_natCast];omega)|omega|exact le_ rfl|((repeat' refine And.intro ?_ ?_)<;>omega)))|with_reducible refine ⟨by kernel_rfl, ?_⟩|refine zau rfl ?_|fail)
        all_goals first
          | rfl
          | (exfalso; omega)
          | trace_state
    · have hi' : ¬ (i : Int) < (hs.length : Int) := by omega
      have hq : ∀ k, (hs.getD k ([], [])).1.length + (hs.getD k ([], [])).2.length ≤ 100 := fun k => by
        by_cases h : k < i
        · exact g2 k h
        · rw [List.getD_eq_getElem?_getD, List.getElem?_eq_none (by omega)]
          show 0 + 0 ≤ 100
          omega
      have cB := cB hq
      have cD := cD hq
      unfold rspP at cA cR cS cB cD
      unfold reqP at cA cR
      obtain ⟨ast, ahs, ab⟩ := A
      dsimp only at cA cR cS cB cD
      unfold reqP rspP
      dsimp only
      repeat' (first |refine zaj (f := 25) rfl rfl Tryz.call25 rfl cA ?_|refine zaj (f := 26) rfl rfl Tryz.call26 rfl cR ?_|refine zaj (f := 24) rfl rfl Tryz.call24 rfl cS ?_|refine zbr (f := 27) rfl rfl rfl rfl Tryz.call27 rfl cB ?_|refine zbr (f := 28) rfl rfl rfl rfl Tryz.call28 rfl cD ?_|refine zbr (f := 23) rfl rfl rfl rfl Tryz.call23 rfl cl ?_|with_reducible (first |refine zag ?_|refine zaa ?_|refine zaf ?_|refine zac ?_|refine zar ?_|refine zan ?_|refine zao ?_|refine zaH ?_)|refine zab rfl rfl True.intro ?_|refine zay rfl rfl rfl ?_|refine zam rfl rfl rfl rfl True.intro ?_|((first |refine zad rfl ?_ ?_|refine zcA rfl rfl ?_ ?_)<;>intro<;>try (first |(exfalso;omega)))|((first |refine zab rfl rfl ?_ ?_|refine zam rfl rfl rfl rfl ?_ ?_);focus (first |exact le_ rfl|((repeat' refine And.intro ?_ ?_)<;>omega)|((repeat' refine And.intro ?_ ?_)<;>first |omega|exact zbj _)))|refine zat rfl ?_|with_reducible refine ⟨by kernel_rfl, ?_⟩|refine zau rfl ?_|fail)
      all_goals first
        | rfl
        | (exfalso; rename_i hz; simp at hz; done)
        | exact congrArg D.b (by simp)
        | trace_state
end Go.Proofs.YtkkaamhocpmhkaaGreatDoor.Flow

namespace Go.Proofs.YtkkaamhocpmhkaaGreatDoor.Flow
open Go.ChangeShapes Go.WideShapes Go.ChangeAt Go.RowKit
set_option maxRecDepth 100000
section
variable {H : Type}
mutual
def flatD : DataW H → List Value
  | .lit (.int k n) => [.int k n]
  | .lit (.bool b) => [.bool b]
  | .lit (.string l) => [.string ⟨l.toArray⟩]
  | .agg ps => flatDs ps
  | _ => []
def flatDs : List (DataW H) → List Value
  | [] => []
  | d :: r => flatD d ++ flatDs r
end
end
def Reads (t : TypeId) (z : Nat) : Prop :=
  ∀ (W : World) held fuel cs x, DataW.trod (fun _ => ()) Tryz.prog W 0 (fun _ => true) held fuel t cs = some x → cs.length = z ∧ cs = flatD x.1
theorem zcv {t : TypeId} {k : IntKind} (ht : Tryz.prog.underlying t = some (.int k)) : Reads t 1 := fun W held fuel cs x h => by
  obtain ⟨n, rfl, rfl, _⟩ := DataW.trod_int ht h
  exact ⟨rfl, by simp [flatD]⟩
theorem zcf {t e z n m : Nat} (ht : Tryz.prog.underlying t = some (.array n e)) (hc : Tryz.prog.cellsOf e = z) (hm : Tryz.prog.cellsOf t = m) (hnm : n * z = m) (hG : Reads e z) : Reads t m := fun W held fuel cs x h => by
  obtain ⟨xs, k, rfl, rfl, hlen, hn, hf⟩ := DataW.trod_array ht h
  rw [hm] at hlen
  rw [hc] at hf
  refine ⟨hlen, ?_⟩
  have key : ∀ (n' : Nat) (ys : List (DataW Unit × List MemPlace)) (cs : List Value), ys.length = n' → cs.length = n' * z → (∀ i, i < n' → DataW.trod (fun _ => ()) Tryz.prog W 0 (fun _ => true) held k e ((cs.drop (i * z)).take z) = ys[i]?) →
      cs = flatDs (ys.map (·.1)) := by
    intro n'
    induction n' with
    | zero =>
      intro ys cs hy hcs _
      obtain rfl : ys = [] := List.length_eq_zero_iff.1 hy
      have : cs = [] := List.length_eq_zero_iff.1 (by omega)
      rw [this]
      simp [flatDs]
    | succ n' ih =>
      intro ys cs hy hcs hf
      match ys, hy with
      | y :: ys, hy =>
        have h0 := hf 0 (by omega)
        obtain ⟨k1, k2⟩ := hG _ _ _ _ _ h0
        rw [Nat.add_mul, Nat.one_mul] at hcs
        have h1 := ih ys (cs.drop z) (by simpa using hy) (by rw [List.length_drop]; omega) (fun i hi => by
          have := hf (i + 1) (by omega)
          rw [List.drop_drop]
          rwa [show z + i * z = (i + 1) * z by rw [Nat.add_mul]; omega])
        simp only [List.map_cons, flatDs]
        rw [← h1, ← k2]
        simp
  have := key n xs cs hn (by omega) hf
  rw [this]
  simp [flatD]
theorem zeL {t z1 z2 m : Nat} {fs : Array Field} {f1 f2 : Field} (ht : Tryz.prog.underlying t = some (.struct fs)) (hl : fs = #[f1, f2]) (hm : Tryz.prog.cellsOf t = m) (o1 : f1.offset = 0) (o2 : f2.offset = z1)
    (c1 : Tryz.prog.cellsOf f1.type = z1) (c2 : Tryz.prog.cellsOf f2.type = z2) (hz : z1 + z2 = m) (h1 : Reads f1.type z1) (h2 : Reads f2.type z2) : Reads t m := fun W held fuel cs x h => by
  subst hl
  obtain ⟨xs, k, rfl, rfl, hlen, hn, hf⟩ := DataW.trod_struct ht h
  rw [hm] at hlen
  refine ⟨hlen, ?_⟩
  match xs, hn with
  | [a, b], _ =>
    have e1 := hf 0 f1 rfl
    have e2 := hf 1 f2 rfl
    rw [o1, c1] at e1
    rw [o2, c2] at e2
    have r1 := (h1 _ _ _ _ _ e1).2
    have r2 := (h2 _ _ _ _ _ e2).2
    simp only [List.map_cons, List.map_nil, flatD, flatDs, List.append_nil]
    rw [← r1, ← r2]
    have : (cs.drop z1).take z2 = cs.drop z1 := List.take_of_length_le (by rw [List.length_drop]; omega)
    rw [this]
    simp
theorem zey {W : World} {name : String} {d : DataW Unit} : ∀ {laid : List (String × DataW Unit)} {ps : List MemPlace}, DataW.LaidVars Tryz.prog W laid ps → (name, d) ∈ laid →
    ∃ g t cs fuel p, Tryz.prog.globalNamed name = some g ∧ (Tryz.prog.globals[g]?).map (·.type) = some t ∧ W.var? Tryz.prog name = some cs ∧ DataW.trod (fun _ => ()) Tryz.prog W 0 (fun _ => true) false fuel t cs.toList = some (d, p)
  | [], _, _, hm => by cases hm
  | (n, e) :: r, ps, h, hm => by
    obtain ⟨g, t, cs, fuel, p, q, h1, h2, h3, h4, h5, _⟩ := h
    rcases List.mem_cons.1 hm with he | hm
    · cases he
      exact ⟨g, t, cs, fuel, p, h1, h2, h3, h4⟩
    · exact zey h5 hm
theorem zer {W : World} {b o : Nat} {c : Value} (h : W.cell? ⟨b, o, none⟩ = some c) : b < W.heap.size := by
  by_cases hb : b < W.heap.size
  · exact hb
  · have : W.heap[b]? = none := by simp; omega
    simp [World.cell?, this] at h
theorem zcQ {W : World} {laid : List (String × DataW Unit)} {name : String} {d : DataW Unit} {g t z : Nat} {k : IntKind} {f : Nat → Int} (h : laidMet Tryz.prog laid W) (hm : (name, d) ∈ laid) (hg : Tryz.prog.globalNamed name = some g)
    (ht : (Tryz.prog.globals[g]?).map (·.type) = some t) (hr : Reads t z) (hf : flatD d = (List.range z).map fun j => .int k (f j)) : Rel (allOf W) W noRho (.rn k z f 0) (.pointer (some ⟨g, 0, none⟩)) := by
  obtain ⟨ps, hl, _⟩ := h
  obtain ⟨g', t', cs, fuel, p, h1, h2, h3, h4⟩ := zey hl hm
  obtain rfl := Option.some.inj (hg.symm.trans h1)
  obtain rfl := Option.some.inj (ht.symm.trans h2)
  obtain ⟨h5, h6⟩ := hr _ _ _ _ _ h4
  refine .rn _ _ _ _ _ _ fun j hj => ?_
  have : W.cell? ⟨g, j, none⟩ = some (.int k (f j)) := by
    rw [World.var?_cell hg h3 j]
    have e : cs[j]? = cs.toList[j]? := by simp
    rw [e, h6, hf]
    simp [hj]
  exact ⟨zer this, this⟩
theorem zbo {W : World} {laid : List (String × DataW Unit)} {name : String} {d : DataW Unit} {g t z : Nat} (h : laidMet Tryz.prog laid W) (hm : (name, d) ∈ laid) (hg : Tryz.prog.globalNamed name = some g)
    (ht : (Tryz.prog.globals[g]?).map (·.type) = some t) (hr : Reads t (z + 1)) : allOf W g (z + 1) ∧ W.cell? ⟨g, z + 1, none⟩ = none := by
  obtain ⟨ps, hl, _⟩ := h
  obtain ⟨g', t', cs, fuel, p, h1, h2, h3, h4⟩ := zey hl hm
  obtain rfl := Option.some.inj (hg.symm.trans h1)
  obtain rfl := Option.some.inj (ht.symm.trans h2)
  obtain ⟨h5, h6⟩ := hr _ _ _ _ _ h4
  have hs : cs.size = z + 1 := by simpa using h5
  have h7 : W.cell? ⟨g, 0, none⟩ = cs[0]? := World.var?_cell hg h3 0
  rw [Array.getElem?_eq_getElem (by omega)] at h7
  refine ⟨zer h7, ?_⟩
  rw [World.var?_cell hg h3 (z + 1)]
  simp [hs]

set_option maxRecDepth 100000
abbrev seatLaid : List (String × DataW Unit) := [("math/bits.deBruijn32tab", Rows.laid_math_bits_deBruijn32tab), ("math/bits.deBruijn64tab", Rows.laid_math_bits_deBruijn64tab), ("internal/strconv.uint64pow10", Rows.laid_internal_strconv_uint64pow10), ("unicode/utf8.acceptRanges", Rows.laid_unicode_utf8_acceptRanges), ("unicode/utf8.first", Rows.laid_unicode_utf8_first)]
theorem zcg : Reads 203 256 := zcf (n := 256) (z := 1) Tryz.underlying203 (by kernel_rfl) (by kernel_rfl) rfl (zcv Tryz.underlying5)
theorem zdu : Reads 206 32 := zcf (n := 16) (z := 2) Tryz.underlying206 (by kernel_rfl) (by kernel_rfl) rfl
  (zeL (z1 := 1) (z2 := 1) Tryz.underlying205 rfl (by kernel_rfl) rfl rfl (by kernel_rfl) (by kernel_rfl) rfl (zcv Tryz.underlying5) (zcv Tryz.underlying5))
theorem zfb : Reads 257 20 := zcf (n := 20) (z := 1) Tryz.underlying257 (by kernel_rfl) (by kernel_rfl) rfl (zcv Tryz.underlying43)
theorem zgc {W : World} (h0 : laidMetH Tryz.prog seatLaid W) (hb : ∀ g, globSome g = true → ∃ m, allOf W g 0 ∧ W.cell? ⟨g, 0, none⟩ = some (.int .i64 m) := by intro g h; cases h) : GOk (allOf W) W := by
  rw [MakeChecks.laidMetH_plain _ _ _ (by kernel_rfl)] at h0
  refine ⟨fun g => ?_, fun g n hn => ?_, hb⟩
  · by_cases e0 : g = 0
    · subst e0
      exact zcQ (name := "unicode/utf8.first") (d := Rows.laid_unicode_utf8_first) h0 (by simp) (by kernel_rfl) (by kernel_rfl) zcg (by kernel_rfl)
    · by_cases e1 : g = 1
      · subst e1
        exact zcQ (name := "unicode/utf8.acceptRanges") (d := Rows.laid_unicode_utf8_acceptRanges) h0 (by simp) (by kernel_rfl) (by kernel_rfl) zdu (by kernel_rfl)
      · by_cases e2 : g = 2
        · subst e2
          exact zcQ (name := "internal/strconv.uint64pow10") (d := Rows.laid_internal_strconv_uint64pow10) h0 (by simp) (by kernel_rfl) (by kernel_rfl) zfb (by kernel_rfl)
        · have e : glob g = .any := by
            unfold glob
            split <;> first | rfl | (exfalso; omega)
          rw [e]
          exact .any ..
  · unfold globLen at hn
    split at hn
    · cases hn
      first | exact zbo (name := "unicode/utf8.first") (d := Rows.laid_unicode_utf8_first) h0 (by simp) (by kernel_rfl) (by kernel_rfl) zcg | exact zbo (name := "unicode/utf8.acceptRanges") (d := Rows.laid_unicode_utf8_acceptRanges) h0 (by simp) (by kernel_rfl) (by kernel_rfl) zdu
    · cases hn
      first | exact zbo (name := "unicode/utf8.acceptRanges") (d := Rows.laid_unicode_utf8_acceptRanges) h0 (by simp) (by kernel_rfl) (by kernel_rfl) zdu | exact zbo (name := "unicode/utf8.first") (d := Rows.laid_unicode_utf8_first) h0 (by simp) (by kernel_rfl) (by kernel_rfl) zcg
    · cases hn
      exact zbo (name := "internal/strconv.uint64pow10") (d := Rows.laid_internal_strconv_uint64pow10) h0 (by simp) (by kernel_rfl) (by kernel_rfl) zfb
    · cases hn

theorem zeD {W : World} {b o : Nat} {x : Value} (h : W.cell? ⟨b, o, none⟩ = some x) : allOf W b o := by
  show b < W.heap.size
  by_cases hb : b < W.heap.size
  · exact hb
  · simp [World.cell?, Array.getElem?_eq_none (Nat.le_of_not_lt hb)] at h
set_option maxRecDepth 100000 in
theorem ziR {W : World} (h : W.ShapedOpen Tryz.prog) : ∃ m, W.cell? ⟨3, 0, none⟩ = some (.int .i64 m) :=
  Go.Proofs.cell_of_shapedOpen_int (zero := #[.int .i64 0]) (t := 3) h (of_decide_eq_true (by kernel_rfl)) (by kernel_rfl) rfl (by kernel_rfl) (by kernel_rfl) Tryz.underlying3
theorem zfK {W : World} (h : W.ShapedOpen Tryz.prog) : ∀ g, globSome g = true → ∃ m, allOf W g 0 ∧ W.cell? ⟨g, 0, none⟩ = some (.int .i64 m) := fun g hg => by
  unfold globSome at hg
  split at hg
  · obtain ⟨m, hm⟩ := ziR h
    exact ⟨m, zeD hm, hm⟩
  · cases hg
end Go.Proofs.YtkkaamhocpmhkaaGreatDoor.Flow
