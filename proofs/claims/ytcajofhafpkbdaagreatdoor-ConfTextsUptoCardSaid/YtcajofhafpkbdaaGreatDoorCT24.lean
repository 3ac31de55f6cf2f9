/- The texts U18, U19, J27, FlowV, LibsB, BW, one behind the other. -/
import Derived.Test.YtcajofhafpkbdaaGreatDoorCT11
import Derived.Test.YtcajofhafpkbdaaGreatDoorCT14
import Derived.Test.YtcajofhafpkbdaaGreatDoorCT22
import Derived.Test.YtcajofhafpkbdaaGreatDoorCT23
import Derived.Lib.UnsafeStr
import Derived.Lib.ReplaceLaws
namespace Go.Proofs.YtcajofhafpkbdaaGreatDoor.Flow
open Go
theorem cut1 (l : List UInt8) (j : Int) (h0 : 0 ≤ j) (h : j < l.length) : (l.take (j + 1).toNat).drop j.toNat = [by8 (at' l j)] := by
  obtain ⟨j, rfl⟩ := Int.eq_ofNat_of_zero_le h0
  rw [ztT]
  have e : ((j : Int) + 1).toNat = j + 1 := by omega
  have e2 : ((j : Int)).toNat = j := by omega
  rw [e, e2, List.take_add_one, List.drop_append_of_le_length (by simp; omega), List.drop_eq_nil_of_le (by simp; omega)]
  have hj : j < l.length := by omega
  simp [hj, List.getD_eq_getElem?_getD]
theorem cutN (l : List UInt8) (j : Nat) (h : j < l.length) : (l.take ((j : Int) + 1).toNat).drop ((j : Int)).toNat = [by8 (at' l j)] := cut1 l j (by omega) (by omega)
set_option maxHeartbeats 2000000 in
theorem zmW (s : List UInt8) (hs : s.length ≤ 1048576) : Ctr Tryz.prog 74 [.s s] (.s (quoteL s)) := by
  have cv := zgT s (by omega)
  unfold quoteL
  cases hv : validL s with
  | false =>
    rw [hv] at cv
    clear hv
    refine zaE Tryz.func74 rfl Tryz.ntmps74 Tryz.results74 rfl rfl fun X hL hX => ?_
    repeat' (first |with_reducible (first |refine zag ?_|refine zaa ?_|refine zaf ?_|refine zad ?_|refine zaj ?_|refine zam ?_)|refine zab rfl rfl True.intro ?_|refine zav rfl ?_|refine zau rfl ?_|refine zai (f := 104) rfl rfl Tryz.call104 rfl cv ?_|fail)
    rfl
  | true =>
    rw [hv] at cv
    clear hv
    rw [if_pos rfl]
    refine zaE Tryz.func74 rfl Tryz.ntmps74 Tryz.results74 rfl rfl fun X hL hX => ?_
    repeat' (first |with_reducible (first |refine zag ?_|refine zaa ?_|refine zaf ?_|refine zad ?_|refine zah ?_|refine zae ?_)|refine zab rfl rfl True.intro ?_|refine zal rfl ?_|refine zai (f := 104) rfl rfl Tryz.call104 rfl cv ?_|fail)
    refine T.loop hL (fun x : Nat × List UInt8 => [(0, .s s), (3, .s x.2), (4, .i .i64 x.1)]) (fun _ => []) (fun x => x.1 ≤ s.length ∧ x.2 = [34] ++ qL (s.take x.1)) (fun x => s.length - x.1) (0, [34]) ⟨Nat.zero_le _, rfl⟩
      ⟨⟨rfl, rfl, rfl, trivial⟩, trivial, rfl, by rw [hX]; intro k hk; cases hk⟩ ?_
    rintro ⟨i, b⟩ ⟨g1, g2⟩
    dsimp only at g1 g2 ⊢
    have hb : b.length ≤ 6 * i + 1 := by
      have := zlP (s.take i)
      rw [g2, List.length_append]
      have : (s.take i).length ≤ i := by simp; omega
      simp
      omega
    have l1 : hexS16.length = 16 := rfl
    have hr := zaH s i
    have hw : Unit → IntKind.i64.wrap (at' s i) = at' s i := fun _ => by rw [wi6_]; omega
    have hwr : 0 ≤ IntKind.i64.wrap (at' s i) ∧ IntKind.i64.wrap (at' s i) < 256 := by rw [hw ()]; exact hr
    have done : ∀ (fr : Fr) (ow : Ow) (xs b' : List UInt8), getD' 0 fr = .s s → getD' 3 fr = .s b' → getD' 4 fr = .i .i64 (i + 1) → i < s.length → qI (IntKind.i64.wrap (at' s i)) = xs → b' = b ++ xs →
        ∃ y : Nat × List UInt8, (y.1 ≤ s.length ∧ y.2 = [34] ++ qL (s.take y.1)) ∧ s.length - y.1 < s.length - i ∧ Le X fr ow [(0, .s s), (3, .s y.2), (4, .i .i64 y.1)] [] := by
      intro fr ow xs b' q1 q2 q3 q4 q5 q6
      subst q6
      exact ⟨(i + 1, b ++ xs), ⟨by dsimp only; omega, by dsimp only; rw [zoZ s i q4, ← hw (), q5, g2, List.append_assoc]⟩, by dsimp only; omega, ⟨q1, q2, q3, trivial⟩, trivial, rfl, by rw [hX]; intro k hk; cases hk⟩
    have g2 := fun _ : Unit => g2
    by_cases hi : i < s.length
    · have hc := fun _ : Unit => cutN s i hi
      have two : ∀ x : UInt8, IntKind.i64.wrap (at' s i) = (x.toNat : Int) → b ++ ({ data := #[92] } : ByteArray).data.toList ++ (s.take ((i : Int) + 1).toNat).drop ((i : Int)).toNat = b ++ [92, x] := fun x hx => by
        rw [hc (), ← hw (), hx, zbo, List.append_assoc]
        rfl
      have one : Unit → b ++ (s.take ((i : Int) + 1).toNat).drop ((i : Int)).toNat = b ++ [by8 (IntKind.i64.wrap (at' s i))] := fun _ => by rw [hc (), hw ()]
      have low : Unit → b ++ ({ data := #[92, 117, 48, 48] } : ByteArray).data.toList ++ (hexS16.take (IntKind.i64.wrap (at' s i) / 16 + 1).toNat).drop (IntKind.i64.wrap (at' s i) / 16).toNat ++ (hexS16.take (IntKind.i64.wrap (at' s i) % 16 + 1).toNat).drop (IntKind.i64.wrap (at' s i) % 16).toNat = b ++ [92, 117, 48, 48, hexD (IntKind.i64.wrap (at' s i) / 16), hexD (IntKind.i64.wrap (at' s i) % 16)] := fun _ => by
        rw [cut1 hexS16 (IntKind.i64.wrap (at' s i) / 16) (by omega) (by omega), cut1 hexS16 (IntKind.i64.wrap (at' s i) % 16) (by omega) (by omega), zlG (IntKind.i64.wrap (at' s i) / 16) (by omega) (by omega), zlG (IntKind.i64.wrap (at' s i) % 16) (by omega) (by omega), zbo, zbo, List.append_assoc, List.append_assoc]
        rfl
      repeat' (first |with_reducible (first |refine zag ?_|refine zaa ?_|refine zaf ?_|refine zad ?_|refine zah ?_|refine zae ?_|refine zap ?_|refine zaB ?_)|refine zab rfl rfl True.intro ?_|refine zat rfl rfl rfl ?_|refine zak rfl rfl rfl rfl True.intro ?_|refine zav rfl ?_|((first |refine zac rfl ?_ ?_|refine zan rfl rfl ?_ ?_)<;>intro<;>try (first |(exfalso;omega)))|((first |refine zab rfl rfl ?_ ?_);focus (first |(simp only [List.length_append, List.length_drop, List.length_take, List.length_cons, List.length_nil];omega)|omega|((repeat first |rw [wi6_]);(repeat' refine And.intro ?_ ?_)<;>omega)))|with_reducible refine ⟨by kernel_rfl, ?_⟩|fail)
      all_goals first
        | exact done _ _ [92, 98] _ rfl rfl rfl hi (qI_8 (by assumption)) rfl
        | exact done _ _ [92, 116] _ rfl rfl rfl hi (qI_9 (by assumption)) rfl
        | exact done _ _ [92, 110] _ rfl rfl rfl hi (ztI (by assumption)) rfl
        | exact done _ _ [92, 102] _ rfl rfl rfl hi (ztN (by assumption)) rfl
        | exact done _ _ [92, 114] _ rfl rfl rfl hi (ztu (by assumption)) rfl
        | exact done _ _ [by8 (IntKind.i64.wrap (at' s i))] _ rfl rfl rfl hi (zrw (by assumption) (by assumption) (by assumption)) (one ())
        | exact done _ _ [92, 34] _ rfl rfl rfl hi (ztY (by assumption)) (two 34 (by assumption))
        | exact done _ _ [92, 92] _ rfl rfl rfl hi (ztn (by assumption)) (two 92 (by assumption))
        | exact done _ _ [92, 117, 48, 48, hexD (IntKind.i64.wrap (at' s i) / 16), hexD (IntKind.i64.wrap (at' s i) % 16)] _ rfl rfl rfl hi (zrM ‹_› ‹_› ‹_› ‹_› ‹_› ‹_›) (low ())
    ·
      clear done
      repeat' (first |with_reducible (first |refine zag ?_|refine zaa ?_|refine zaf ?_|refine zad ?_|refine zaj ?_|refine zaA ?_|refine zaz ?_)|refine zab rfl rfl True.intro ?_|((first |refine zac rfl ?_ ?_)<;>intro<;>try (first |(exfalso;omega)))|((first |refine zab rfl rfl ?_ ?_);focus (first |(simp only [List.length_cons, List.length_nil];omega)|((repeat' refine And.intro ?_ ?_)<;>omega)))|refine zaO rfl ?_|refine zau rfl ?_|fail)
      rw [g2 (), List.take_of_length_le (by omega)]

theorem zmq (s : List UInt8) : (quoteL s).length ≤ 6 * s.length + 2 := by
  have := zlP s
  unfold quoteL
  split
  · simp
    omega
  · simp

theorem zgU (mp : Bool) (x : J) : ∀ (l : List J) (f : Bool) (ks : List (List UInt8)), partsT mp f (l ++ [x]) ks = partsT mp f l ks ++ (aheadT mp (f && l.isEmpty) (ks.drop l.length) ++ textJ x)
  | [], f, ks => by
    rw [List.nil_append, partsT, partsT, partsT, List.append_nil]
    cases f <;> rfl
  | y :: l, f, ks => by
    rw [List.cons_append, partsT, zgU mp x l false ks.tail, partsT]
    simp only [List.append_assoc, List.length_cons, List.isEmpty_cons, Bool.and_false, Bool.false_and, List.drop_tail]
def partN (mp : Bool) (l : List J) (ks : List (List UInt8)) (i : Nat) : List UInt8 := partsT mp true (l.take i) ks
theorem zcB (mp : Bool) (l : List J) (ks : List (List UInt8)) : partN mp l ks 0 = [] := by
  unfold partN
  rw [List.take_zero, partsT]
theorem zfY (mp : Bool) (l : List J) (ks : List (List UInt8)) : partN mp l ks l.length = partsT mp true l ks := by
  unfold partN
  rw [List.take_length]
theorem zbW (mp : Bool) {l : List J} (ks : List (List UInt8)) {i : Nat} (h : i < l.length) :
    partN mp l ks (i + 1) = ((partN mp l ks i ++ (if i = 0 then [] else [44])) ++ (if mp = true then quoteL (ks.getD i []) ++ [58] else [])) ++ textJ (l.getD i j0) := by
  unfold partN
  have e : l.take (i + 1) = l.take i ++ [l.getD i j0] := by
    rw [List.take_add_one]
    have : l[i]? = some (l.getD i j0) := by simp [List.getD_eq_getElem?_getD, h]
    rw [this]
    rfl
  rw [e, zgU]
  have e2 : (true && (l.take i).isEmpty) = decide (i = 0) := by
    by_cases h0 : i = 0
    · subst h0
      rw [List.take_zero]
      rfl
    · rw [decide_eq_false h0, Bool.true_and]
      cases hq : (l.take i).isEmpty with
      | false => rfl
      | true =>
        have := List.isEmpty_iff_length_eq_zero.1 hq
        rw [List.length_take] at this
        omega
  have e3 : (ks.drop (l.take i).length).headD [] = ks.getD i [] := by
    rw [List.length_take, Nat.min_eq_left (by omega)]
    simp [List.headD_eq_head?_getD, List.getD_eq_getElem?_getD, List.head?_drop]
  rw [e2]
  unfold aheadT
  rw [e3]
  simp only [List.append_assoc, decide_eq_true_eq]
theorem zev (s : List UInt8) : (quoteL s).length ≤ 6 * s.length + 2 := zmq s
theorem zhA {d : Nat} (ih : ∀ x, rightJ d x = true → (textJ x).length + 4 ≤ 1010 * jb x) : ∀ (l : List J) (ks : List (List UInt8)) (mp f : Bool), l.all (rightJ d) = true → (partsT mp f l ks).length ≤ 1010 * (jbL l + txL ks)
  | [], _, _, _, _ => by
    rw [partsT]
    exact Nat.zero_le _
  | x :: r, ks, mp, f, h => by
    rw [List.all_cons, Bool.and_eq_true] at h
    have h1 := ih x h.1
    have h2 := zhA ih r ks.tail mp false h.2
    rw [partsT, jbL]
    have ha : (aheadT mp f ks).length + 1010 * txL ks.tail ≤ 1010 * txL ks + 4 := by
      unfold aheadT
      cases ks with
      | nil => cases f <;> cases mp <;> decide
      | cons k kr =>
        have := zev k
        have e1 : (k :: kr).headD [] = k := rfl
        have e2 : (k :: kr).tail = kr := rfl
        rw [e1, e2, txL]
        cases f <;> cases mp <;> simp only [if_true, if_false, Bool.false_eq_true, List.length_append, List.length_cons, List.length_nil] <;> omega
    simp only [List.length_append]
    omega
theorem zoA : ∀ (d : Nat) (x : J), rightJ d x = true → (textJ x).length + 4 ≤ 1010 * jb x := by
  intro d
  induction d with
  | zero => intro x h; cases h
  | succ d ih =>
    rintro ⟨k, y, n, dg, e, t, l, ks⟩ h
    have hp := zhA ih l ks
    rw [textJ, jb]
    rw [zbU] at h
    have qt := zev t
    by_cases k0 : k = 0
    · rw [if_pos k0]
      show 4 + 4 ≤ _
      omega
    rw [if_neg k0]
    by_cases k1 : k = 1
    · rw [if_pos k1]
      cases y
      · show 5 + 4 ≤ _
        omega
      · show 4 + 4 ≤ _
        omega
    rw [if_neg k1]
    rw [if_neg (fun q => q.elim k0 k1)] at h
    by_cases k2 : k = 2
    · rw [if_pos k2] at h ⊢
      have := zfZ (zft h)
      omega
    rw [if_neg k2] at h ⊢
    by_cases k3 : k = 3
    · rw [if_pos k3]
      omega
    rw [if_neg k3] at h ⊢
    by_cases k4 : k = 4
    · rw [if_pos k4]
      rw [if_neg (by omega), if_pos k4] at h
      have := hp false true h
      simp only [List.length_append, List.length_cons, List.length_nil]
      omega
    rw [if_neg k4] at h ⊢
    by_cases k5 : k = 5
    · rw [if_pos k5, Bool.and_eq_true] at h
      have := hp (decide (k = 5)) true h.2
      simp only [List.length_append, List.length_cons, List.length_nil]
      omega
    · rw [if_neg k5] at h
      cases h

section
variable {P : Program} {X : Ctx} {n : Nat} {O : Nat → Option Own}
theorem ztp {w : World} {S : Cells} {r : Rho} {zv : Value} (e : TypeId) (hH : Hist X w S) (hI : Inv X w S r O) (hv : Rel S w r (.ag [.v (.pointer none), .nilS]) zv) {k : Nat} (hk : O k = none) :
    ∃ S' r', Rel S' (w.alloc (.cells zv.cells e)) r' (.pv k 0) (.pointer (some ⟨w.heap.size, 0, none⟩)) ∧ Hist X (w.alloc (.cells zv.cells e)) S' ∧
      Inv X (w.alloc (.cells zv.cells e)) S' r' (updO O [(k, .bld e .nilS)]) ∧ (∀ b o, S b o → S' b o) ∧
      (∀ b o, S b o → (w.alloc (.cells zv.cells e)).cell? ⟨b, o, none⟩ = w.cell? ⟨b, o, none⟩) ∧ RhoLe r r' := by
  have hc := Chg.alloc w S hH.valid (.cells zv.cells e)
  have hr : RhoLe r (updR r k (.blk w.heap.size)) := RhoLe.new (hI.dom k hk)
  obtain ⟨hz, hcell⟩ := zby hv rfl
  have hk0 : updR r k (.blk w.heap.size) k = some (.blk w.heap.size) := by simp [updR]
  refine ⟨S, updR r k (.blk w.heap.size), .pv _ k 0 _ hk0, ?_, ?_, fun _ _ h => h, hc.cell, hr⟩
  · exact hH.chg hc (fun b hb => by cases hb) (fun _ _ h => h) (fun b o h => .inl h)
  · refine hI.put hc (fun _ _ h => h) hr k _ (.blk w.heap.size) ?_ hk0 (fun j hj => by simp [updR, hj]) (fun b hb => ?_) (fun b hb => by cases hb) (fun b o h => .inl h)
    · refine ⟨w.heap.size, zv.cells, e, hk0, heap_alloc_new w _, hz, .inl ⟨?_, rfl⟩, ⟨(hcell 1 (by decide)).mono (fun _ _ h => h) hc.cell _ hr, rfl⟩, fun o ho => ?_⟩
      · have h0 : Rel S w r (.v (.pointer none)) (zv.cells.getD 0 undef) := hcell 0 (by decide)
        generalize zv.cells.getD 0 undef = v0 at h0
        cases h0
        rfl
      · have := hH.valid _ _ ho; omega
    · simp only [Loc.block, Option.some.injEq] at hb
      subst hb
      exact .inl ⟨Nat.le_refl _, .inl hH.size⟩
variable {o : Oper} {fr : Fr} {ow : Ow} {t k : Nat} {ty : TypeId} {x : Operand}
theorem zqP {B' : Tb} (hB : tb P = B') (ho : o.op = .alloc ty) (hz : B'.zr ty = some (.ag [.v (.pointer none), .nilS])) (ht : look t ow = none) (hd : dstOk o.dst n) :
    ∀ F' O', (∀ y ∈ o.op.operands.toList, evF F' y = evF (fF fr) y) → (∀ j ∈ [t], O' j = fO ow j) → StepAt P X n o F' O' (.pv t 0) [(t, .bld ty .nilS)] := by
  intro F' O' he hO
  have hz' : zeroD P ty = some (.ag [.v (.pointer none), .nilS]) := by subst hB; exact hz
  obtain ⟨i, zv, h1, h2, h3⟩ := zbg hz'
  refine zas hd fun a w S r hH hI hr => ?_
  have hk : O' t = none := (hO t (by simp)).trans ht
  have hv := zbq S w r zv
  rw [← h3] at hv
  obtain ⟨S', r', g1, g2, g3, g4, g5, g6⟩ := ztp ty hH hI hv hk
  refine ⟨_, _, S', r', .inl ?_, g1, g2, g3, g4, g5, g6⟩
  simp [execOp, ho, Instr.alloc, zeroValue, typeInfo, h1, h2, newVar, newRow]
theorem T.adoptB {c : Code} {Q : Exit → Fr → Ow → Prop} (v k : Nat) (e T0 : TypeId) (f : Nat → List D) (hv : look v ow = some (.bld T0 .nilS)) (hk : look k ow = none)
    (h : T P X n c fr ((v, .bld T0 (.gs k 1 0 f)) :: (k, .row e 1 0) :: ow) Q) : T P X n c fr ow Q := fun a w hr => by
  refine h a w ?_
  obtain ⟨S, r, hH, hI, hF, hd, hn, hρ⟩ := hr
  have hle : RhoLe r (updR r k (.row (.slice none 0 0) 0)) := RhoLe.new (hI.dom k hk)
  have hk0 : updR r k (.row (.slice none 0 0) 0) k = some (.row (.slice none 0 0) 0) := by simp [updR]
  have hc : Chg w w S none := ⟨rfl, rfl, rfl, Nat.le_refl _, fun _ _ _ => rfl, fun _ _ _ => rfl⟩
  have hI2 : Inv X w S (updR r k (.row (.slice none 0 0) 0)) (fO ((k, .row e 1 0) :: ow)) := by
    rw [zaJ]
    exact hI.put hc (fun _ _ h => h) hle k _ (.row (.slice none 0 0) 0) ⟨_, hk0, .inl ⟨rfl, rfl⟩⟩ hk0 (fun j hj => by simp [updR, hj]) (fun b hb => by simp [Loc.block] at hb) (fun b hb => by cases hb) (fun _ _ h => .inl h)
  have hvk : v ≠ k := fun e => by subst e; rw [hv] at hk; cases hk
  have hv2 : fO ((k, .row e 1 0) :: ow) v = some (.bld T0 .nilS) := by
    rw [zaJ]
    show (if v = k then _ else fO ow v) = _
    rw [if_neg hvk]
    exact hv
  obtain ⟨b, cur, e0, h1, h2, h3, h4, h5, h6⟩ := hI2.obj v _ hv2
  refine ⟨S, updR r k (.row (.slice none 0 0) 0), hH, ?_, fun u => (hF u).mono (fun _ _ h => h) (fun _ _ _ => rfl) _ hle, hd, hn, hρ.trans hle⟩
  rw [zaJ]
  refine hI2.put hc (fun _ _ h => h) (RhoLe.refl _) v _ (.blk b) ⟨b, cur, e0, h1, h2, h3, h4, ⟨?_, rfl⟩, h6⟩ h1 (fun _ _ => rfl) (fun b' hb' => .inr ⟨_, h1, hb'⟩) (fun b hb => by cases hb) (fun _ _ h => .inl h)
  have h7 := h5.1
  generalize cur.getD 1 undef = vj at h7 ⊢
  cases h7
  exact .gs _ k 1 0 f _ _ 0 (.sl _ _ _ _ none 0 (fun _ _ => undef) (Nat.le_refl _) (by unfold maxLen; omega) (fun i hi => by omega) (fun i j hi => by omega) (fun i j hi => by omega)) hk0 (Nat.le_refl _) (fun _ => .inl rfl)
theorem ziU (w : World) (b : Nat) (u : Value) (cur : Array Value) (e : TypeId) (fz : Nat × Nat) (h : w.heap[b]? = some (.cells cur e fz)) : (w.setCell ⟨b, 0, none⟩ u).heap[b]? = some (.cells (cur.setIfInBounds 0 u) e fz) := by
  simp only [World.setCell, Array.getElem?_modify, if_true, h, Option.map_some]
  rfl
theorem Chg.setCell (w : World) (S : Cells) (b : Nat) (u : Value) (hS : ∀ o, ¬ S b o) : Chg w (w.setCell ⟨b, 0, none⟩ u) S (some b) where
  os := rfl
  tape := rfl
  output := rfl
  size := by simp [World.setCell]
  block := fun k _ hne => RowKit.Below.heap_setCell w _ u k (fun e => hne (by rw [e]))
  cell := fun b' o hb => World.cell?_of_block (RowKit.Below.heap_setCell w _ u b' (fun e => hS o (by rw [← show b' = b from e]; exact hb)))
theorem zsa {f : FuncId} {T0 : TypeId} {d : D} {lo : Ow}
    (hu : ∀ (b : Nat) (w : World), w.cell? ⟨b, 0, none⟩ = some (.pointer (some ⟨b, 0, none⟩)) → Calls P f #[.pointer (some ⟨b, 0, none⟩)] w fun e w' => e = .returned (.tuple #[]) ∧ w' = w)
    (hf : ∀ (b : Nat) (w : World), w.cell? ⟨b, 0, none⟩ = some (.pointer none) → w.shape? b = some (T0, 2) → w.frozen? ⟨b, 0, none⟩ = false →
      Calls P f #[.pointer (some ⟨b, 0, none⟩)] w fun e w' => e = .returned (.tuple #[]) ∧ w' = w.setCell ⟨b, 0, none⟩ (.pointer (some ⟨b, 0, none⟩))) :
    CtrO P f [.pv k 0] ((k, .bld T0 d) :: lo) (.tu []) ((k, .var [.pv k 0, d]) :: lo) := by
  intro X vs hids hH hI hn hr
  have h0 := hr 0 (by simp)
  have e1 : vs = #[vs.getD 0 undef] := by
    obtain ⟨l⟩ := vs
    match l, hn with
    | [a], _ => rfl
  rw [e1]
  generalize vs.getD 0 undef = v0 at *
  have hO : fO ((k, .bld T0 d) :: lo) k = some (.bld T0 d) := by
    rw [zaJ]
    exact if_pos rfl
  obtain ⟨b, cur, e, g1, g2, g3, g4, g5, g6⟩ := hI.obj k _ hO
  have h0 : Rel X.S0 X.w0 X.r0 (.pv k 0) v0 := h0
  cases h0 with
  | pv _ _ _ b' hb =>
  rw [g1] at hb
  cases hb
  have hup : ∀ (w' : World) (cur' : Array Value) (g : Option Nat), (g = none ∨ g = some b) → Chg X.w0 w' X.S0 g → w'.heap[b]? = some (.cells cur' e (0, 0)) → cur'.size = 2 → cur'.getD 0 undef = .pointer (some ⟨b, 0, none⟩) → cur'.getD 1 undef = cur.getD 1 undef →
      Hist X w' X.S0 ∧ Inv X w' X.S0 X.r0 (fO ((k, .var [.pv k 0, d]) :: lo)) := by
    intro w' cur' g hg hc q1 q2 q3 q4
    have hgb : ∀ b', g = some b' → b' = b := fun b' h => by
      rcases hg with rfl | rfl
      · cases h
      · cases h; rfl
    refine ⟨hH.chg hc (fun b' hb' => by rw [hgb b' hb']; exact hI.low k _ b g1 rfl) (fun _ _ h => h) (fun _ _ h => .inl h), ?_⟩
    have hEq : fO ((k, Own.var [.pv k 0, d]) :: lo) = fun j => if j = k then some (Own.var [.pv k 0, d]) else fO ((k, Own.bld T0 d) :: lo) j := by
      rw [zaJ, zaJ]
      funext j
      show (if j = k then _ else _) = if j = k then _ else (if j = k then _ else _)
      by_cases hj : j = k
      · rw [if_pos hj, if_pos hj]
      · rw [if_neg hj, if_neg hj, if_neg hj]
    rw [hEq]
    refine hI.put hc (fun _ _ h => h) (RhoLe.refl _) k _ (.blk b) ?_ g1 (fun _ _ => rfl) (fun b' hb' => .inr ⟨_, g1, hb'⟩) (fun b' hb' => ⟨_, g1, by rw [hgb b' hb']; rfl⟩) (fun _ _ h => .inl h)
    refine ⟨b, cur', e, g1, q1, q2, fun j hj => ?_, g6⟩
    match j, hj with
    | 0, _ =>
      rw [q3]
      exact ⟨.pv _ k 0 b g1, rfl⟩
    | 1, _ =>
      rw [q4]
      exact ⟨g5.1.mono (fun _ _ h => h) hc.cell _ (RhoLe.refl _), g5.2⟩
  have hc0 : X.w0.cell? ⟨b, 0, none⟩ = some (cur.getD 0 undef) := by
    rw [Lib.cell_of_heap g2]
    have : 0 < cur.size := by omega
    simp [Array.getD_eq_getD_getElem?, this]
  rcases g4 with ⟨g4, rfl⟩ | g4
  · refine (hf b X.w0 (by rw [hc0, g4]) (by simp [World.shape?, g2, g3]) (by simp [World.frozen?, g2])).mono ?_
    rintro e' w' ⟨rfl, rfl⟩
    have hc := Chg.setCell X.w0 X.S0 b (.pointer (some ⟨b, 0, none⟩)) g6
    obtain ⟨q1, q2⟩ := hup _ _ _ (.inr rfl) hc (ziU _ b _ cur e (0, 0) g2) (by simpa using g3) (by simp [Array.getD_eq_getD_getElem?, g3]) (by simp [Array.getD_eq_getD_getElem?])
    exact ⟨_, X.S0, X.r0, rfl, .tu _ _ _ rfl (fun j hj => absurd hj (by simp)), q1, q2, RhoLe.refl _⟩
  · refine (hu b X.w0 (by rw [hc0, g4])).mono ?_
    rintro e' w' ⟨rfl, rfl⟩
    obtain ⟨q1, q2⟩ := hup _ cur none (.inl rfl) ⟨rfl, rfl, rfl, Nat.le_refl _, fun _ _ _ => rfl, fun _ _ _ => rfl⟩ g2 g3 g4 rfl
    exact ⟨_, X.S0, X.r0, rfl, .tu _ _ _ rfl (fun j hj => absurd hj (by simp)), q1, q2, RhoLe.refl _⟩
theorem zmp {B' : Tb} {d : D} {T0 : TypeId} (hB : tb P = B') (ho : o.op = .load ty x) (hz : B'.sz ty = some (1, false)) (hx : ev fr x = .pv k 1) (hk : look k ow = some (.bld T0 d)) (hd : dstOk o.dst n) :
    ∀ F' O', (∀ y ∈ o.op.operands.toList, evF F' y = evF (fF fr) y) → (∀ j ∈ [k], O' j = fO ow j) → StepAt P X n o F' O' d [] := by
  intro F' O' he hO
  have hz' : szOf P ty = some (1, false) := by subst hB; exact hz
  refine zas hd fun a w S r hH hI hr => ?_
  have hx' := hr x
  rw [he x (by simp [ho, Op.operands]), zaT, hx] at hx'
  have hk' : O' k = some (.bld T0 d) := (hO k (by simp)).trans hk
  obtain ⟨b, cur, e, g1, g2, g3, g4, g5, g6⟩ := hI.obj k _ hk'
  generalize hv : a.eval x = vx at hx'
  cases hx' with
  | pv _ _ _ b' hb =>
    rw [g1] at hb
    cases hb
    obtain ⟨v, q1, q2⟩ := zbd (P := P) (S := S) (r := r) (w := w) (t := ty) (z := (1, false)) (cs := [.any, d]) (o := 0) (b := b) (off := 1) (c := fun j => cur.getD j undef) hz' (by show 1 < 2; omega) (fun j hj => by
      rw [Nat.zero_add, cell_of_row w b j cur e (0, 0) g2]
      have : j < cur.size := by rw [g3]; exact hj
      simp [Array.getD_eq_getD_getElem?, this]) (fun j hj => match j, hj with
        | 0, _ => .any ..
        | 1, _ => g5.1)
    rw [Nat.zero_add] at q1
    exact ⟨v, w, S, r, .inl (by simp [execOp, ho, hv, q1]), q2, hH, hI, fun _ _ h => h, fun _ _ _ => rfl, RhoLe.refl r⟩
theorem zmM {e : TypeId} {L : Nat} {f : Nat → List D} {ts : Array TypeId} (ho : o.op = .call { callee := .builtin .unsafeSliceData, args := #[x], argTypes := ts }) (hx : ev fr x = .gs k 1 L f) (hk : look k ow = some (.row e 1 L)) (hL : 0 < L) (hd : dstOk o.dst n) :
    ∀ F' O', (∀ y ∈ o.op.operands.toList, evF F' y = evF (fF fr) y) → (∀ j ∈ [k], O' j = fO ow j) → StepAt P X n o F' O' (.ap k 1 L 0 0) [] := by
  intro F' O' he hO
  refine zas hd fun a w S r hH hI hr => ?_
  have hx' := hr x
  rw [he x (by simp [ho, Op.operands, Call.operands]), zaT, hx] at hx'
  have hk' : O' k = some (.row e 1 L) := (hO k (by simp)).trans hk
  obtain ⟨tv, g1, g2⟩ := hI.obj k _ hk'
  rcases g2 with ⟨_, g2⟩ | ⟨g, cap, cur, rfl, g3, g4, g5, g6, g7⟩
  · omega
  generalize hv : a.eval x = vx at hx'
  cases hx' with
  | gs _ _ _ _ _ _ tv' L' h1 h2 h3 h4 =>
    rw [g1] at h2
    cases h2
    have h5 : vx = .slice (some ⟨g, 0, none⟩) L cap := by
      rcases h4 rfl with h5 | ⟨h5, _⟩
      · exact h5
      · cases h5
    subst h5
    have hrun := Lib.run_unsafeSliceData_row (P := P) w ts o.type ⟨g, 0, none⟩ L cap (by omega)
    refine ⟨.pointer (some ⟨g, 0, none⟩), w, S, r, .inl ?_, .ap _ k 1 L 0 0 _ _ L g1 (Nat.le_refl _) (fun _ => ⟨g, cap, rfl, by simp⟩) ⟨g, 0, rfl⟩, hH, hI, fun _ _ h => h, fun _ _ _ => rfl, RhoLe.refl r⟩
    simp [execOp, ho, resolve, invoke, builtin, hv, hrun]
theorem zjR (w : World) (a : Addr) (m : Nat) (p : Addr) : (w.freeze a m).cell? p = w.cell? p := by
  unfold World.freeze
  split
  · rfl
  · unfold World.cell?
    simp only [Array.getElem?_modify]
    by_cases h : a.block = p.block
    · rw [if_pos h]
      cases w.heap[p.block]? with
      | none => rfl
      | some o => cases o <;> rfl
    · rw [if_neg h]
theorem zgt (w : World) (a : Addr) (m : Nat) : (w.freeze a m).heap.size = w.heap.size := by
  unfold World.freeze
  split
  · rfl
  · simp
theorem ziR (w : World) (g o m j : Nat) (h : j ≠ g) : (w.freeze ⟨g, o, none⟩ m).heap[j]? = w.heap[j]? := by
  unfold World.freeze
  split
  · rfl
  · simp only [Array.getElem?_modify]
    rw [if_neg (fun e => h e.symm)]
theorem Chg.freeze (w : World) (S : Cells) (g m : Nat) : Chg w (w.freeze ⟨g, 0, none⟩ m) S (some g) where
  os := by unfold World.freeze; split <;> rfl
  tape := by unfold World.freeze; split <;> rfl
  output := by unfold World.freeze; split <;> rfl
  size := by rw [zgt]; omega
  block := fun j _ hne => ziR w g 0 m j (fun e => hne (by rw [e]))
  cell := fun b o _ => zjR w _ m _
theorem zoR {y : Operand} {pt it e T0 : TypeId} {kb : Nat} {l : List UInt8} (hp : P.underlying pt = some (.pointer e)) (hc : P.cellsOf e = 1) (ho : o.op = .call { callee := .builtin .unsafeString, args := #[x, y], argTypes := #[pt, it] })
    (hx : ev fr x = .ap k 1 l.length 0 0) (hy : ev fr y = .i .i64 l.length) (hk : look k ow = some (.row e 1 l.length)) (hb : look kb ow = some (.bld T0 (.gs k 1 l.length (bytesF l)))) (_hne : kb ≠ k) (hL : 0 < l.length) (hd : dstOk o.dst n) :
    ∀ F' O', (∀ y ∈ o.op.operands.toList, evF F' y = evF (fF fr) y) → (∀ j ∈ [kb, k], O' j = fO ow j) → StepAt P X n o F' O' (.s l) [(k, .gone)] := by
  intro F' O' he hO
  refine zas hd fun a w S r hH hI hr => ?_
  have hx' := hr x
  have hy' := hr y
  rw [he x (by simp [ho, Op.operands, Call.operands]), zaT, hx] at hx'
  rw [he y (by simp [ho, Op.operands, Call.operands]), zaT, hy] at hy'
  have hk' : O' k = some (.row e 1 l.length) := (hO k (by simp)).trans hk
  have hb' : O' kb = some (.bld T0 (.gs k 1 l.length (bytesF l))) := (hO kb (by simp)).trans hb
  obtain ⟨tv, g1, g2⟩ := hI.obj k _ hk'
  rcases g2 with ⟨_, g2⟩ | ⟨g, cap, cur, rfl, g3, g4, g5, g6, g7⟩
  · omega
  obtain ⟨bb, bc, be, q1, q2, q3, q4, q5, q6⟩ := hI.obj kb _ hb'
  have q7 := q5.1
  generalize bc.getD 1 undef = vb at q7
  generalize hv : a.eval x = vx at hx'
  generalize hu : a.eval y = vy at hy'
  cases hy'
  cases hx' with
  | ap _ _ _ _ _ _ ad tv' L' h2 h3 h4 h5 =>
  rw [g1] at h2
  cases h2
  obtain ⟨g', cap', h6, h7⟩ := h4 rfl
  cases h6
  subst h7
  cases q7 with
  | gs _ _ _ _ _ _ tv2 L2 m1 m2 m3 m4 =>
  rw [g1] at m2
  cases m2
  have m5 : vb = .slice (some ⟨g, 0, none⟩) l.length cap := by
    rcases m4 rfl with h5 | ⟨h5, _⟩
    · exact h5
    · cases h5
  subst m5
  cases m1 with
  | sl _ _ _ _ _ _ c n1 n2 n3 n4 n5 =>
  have hcell : ∀ j xx, l[j]? = some xx → w.cell? ((⟨g, 0, none⟩ : Addr).add j) = some (.int .u8 xx.toNat) := fun j xx hj => by
    have hjl : j < l.length := (List.getElem?_eq_some_iff.1 hj).1
    obtain ⟨b, o', e1, _, e2⟩ := n4 j 0 hjl (by omega)
    cases e1
    have e3 := n5 j 0 hjl (by omega)
    have e4 : (bytesF l j).getD 0 .any = .i .u8 (xx.toNat : Int) := by
      simp [bytesF, List.getD_eq_getElem?_getD, hj]
    rw [e4] at e3
    generalize c j 0 = cv at e2 e3
    cases e3
    rw [Addr.add_lit]
    simpa using e2
  have hl0 : l ≠ [] := fun h => by rw [h] at hL; simp at hL
  have hrun := Lib.run_unsafeString_row (P := P) w pt it o.type e hp hc g cur.size (by simp [World.shape?, g3]) l hl0 (by omega) (by unfold maxLen at g5; omega) hcell
  have hch := Chg.freeze w S g l.length
  refine ⟨.string ⟨l.toArray⟩, w.freeze ⟨g, 0, none⟩ l.length, S, r, .inl ?_, .s .., ?_, ?_, fun _ _ h => h, hch.cell, RhoLe.refl r⟩
  · have e0 : (⟨g, 0 * 1 + 0, none⟩ : Addr) = ⟨g, 0, none⟩ := rfl
    simp [execOp, ho, resolve, invoke, builtin, hv, hu, hrun]
  · exact hH.chg hch (fun b' hb' => by cases hb'; exact hI.low k _ g g1 rfl) (fun _ _ h => h) (fun _ _ h => .inl h)
  · refine hI.put hch (fun _ _ h => h) (RhoLe.refl r) k _ _ ⟨_, g1, fun b' hb' => ?_⟩ g1 (fun _ _ => rfl) (fun b' hb' => .inr ⟨_, g1, hb'⟩) (fun b' hb' => ⟨_, g1, by cases hb'; rfl⟩) (fun _ _ h => .inl h)
    rw [zgt]
    simp only [Loc.block, Option.some.injEq] at hb'
    subst hb'
    exact (Array.getElem?_eq_some_iff.1 g3).1
end
section
variable {X : Ctx} {n : Nat} {all rest : List Oper} {fr : Fr} {ow : Ow} {tr : List (List Nat × List Nat)} {K : Fr → Ow → List (List Nat × List Nat) → Prop}
variable {t k : Nat} {ty ty' : TypeId} {ps : String} {af : Array Edge} {x : Operand} {l : List UInt8}
theorem zrP (o : Oper) (ho : o.op = .alloc ty) (hg : o.guard = none) (hds : o.dst = some t) (hz : B.zr ty = some (.ag [.v (.pointer none), .nilS])) (ht : look t ow = none) (hn : Nat.blt t n = true)
    (h : CT Tryz.prog X n all rest ((t, .pv t 0) :: fr) ((t, .bld ty .nilS) :: ow) (tr ++ [([t], [t])]) K) : CT Tryz.prog X n all (o :: rest) fr ow tr K := by
  have e := zct
  have h1 := @zqP Tryz.prog X n o fr ow t ty
  have h2 := @h1 B e
  have h3 := h2 ho
  have h4 := h3 hz ht (by rw [hds]; exact Nat.le_of_ble_eq_true hn)
  refine CT.cons (e := ⟨.pv t 0, [t], [(t, .bld ty .nilS)]⟩) (.plain hg h4) ?_ (zaJ ..) h
  rw [hds]
  exact zaF ..
theorem r_bld (hz : B.zr ty = some (.ag [.v (.pointer none), .nilS])) (ht : look t ow = none) (hn : Nat.blt t n = true)
    (h : CT Tryz.prog X n all rest ((t, .pv t 0) :: fr) ((t, .bld ty .nilS) :: ow) (tr ++ [([t], [t])]) K) : CT Tryz.prog X n all (⟨some t, .alloc ty, ty', ps, af, none⟩ :: rest) fr ow tr K := by
  generalize ho : (⟨some t, .alloc ty, ty', ps, af, none⟩ : Oper) = o
  exact zrP o (by rw [← ho]) (by rw [← ho]) (by rw [← ho]) hz ht hn h
theorem ztb {d : D} {T0 : TypeId} (hx : ev fr x = .pv k 1) (hk : look k ow = some (.bld T0 d)) (hz : B.sz ty = some (1, false)) (hn : Nat.blt t n = true)
    (h : CT Tryz.prog X n all rest ((t, d) :: fr) ow (tr ++ [([k], [])]) K) : CT Tryz.prog X n all (⟨some t, .load ty x, ty', ps, af, none⟩ :: rest) fr ow tr K :=
  CT.cons (e := ⟨d, [k], []⟩) (.plain rfl (zmp (P := Tryz.prog) (X := X) (o := ⟨some t, .load ty x, ty', ps, af, none⟩) zct rfl hz hx hk (Nat.le_of_ble_eq_true hn))) (zaF ..) rfl h
theorem zsj {e : TypeId} {L : Nat} {f : Nat → List D} {ts : Array TypeId} (hx : ev fr x = .gs k 1 L f) (hk : look k ow = some (.row e 1 L)) (hn : Nat.blt t n = true) (hL : 0 < L)
    (h : CT Tryz.prog X n all rest ((t, .ap k 1 L 0 0) :: fr) ow (tr ++ [([k], [])]) K) : CT Tryz.prog X n all (⟨some t, .call { callee := .builtin .unsafeSliceData, args := #[x], argTypes := ts }, ty', ps, af, none⟩ :: rest) fr ow tr K :=
  CT.cons (e := ⟨.ap k 1 L 0 0, [k], []⟩) (.plain rfl (zmM (P := Tryz.prog) (X := X) (o := ⟨some t, .call { callee := .builtin .unsafeSliceData, args := #[x], argTypes := ts }, ty', ps, af, none⟩) rfl hx hk hL (Nat.le_of_ble_eq_true hn))) (zaF ..) rfl h
set_option maxRecDepth 100000 in
theorem ztX {y : Operand} {pt it e T0 : TypeId} (kb : Nat) (l : List UInt8) (hx : ev fr x = .ap k 1 l.length 0 0) (hy : ev fr y = .i .i64 l.length) (hk : look k ow = some (.row e 1 l.length)) (hb : look kb ow = some (.bld T0 (.gs k 1 l.length (bytesF l))))
    (hp : Tryz.prog.underlying pt = some (.pointer e)) (hc : Tryz.prog.cellsOf e = 1) (hne : Nat.beq kb k = false) (hn : Nat.blt t n = true) (hL : 0 < l.length)
    (h : CT Tryz.prog X n all rest ((t, .s l) :: fr) ((k, .gone) :: ow) (tr ++ [([kb, k], [k])]) K) : CT Tryz.prog X n all (⟨some t, .call { callee := .builtin .unsafeString, args := #[x, y], argTypes := #[pt, it] }, ty', ps, af, none⟩ :: rest) fr ow tr K :=
  CT.cons (e := ⟨.s l, [kb, k], [(k, .gone)]⟩) (.plain rfl (zoR (P := Tryz.prog) (X := X) (o := ⟨some t, .call { callee := .builtin .unsafeString, args := #[x, y], argTypes := #[pt, it] }, ty', ps, af, none⟩) hp hc rfl hx hy hk hb (fun e => by subst e; rw [Nat.beq_refl] at hne; cases hne) hL (Nat.le_of_ble_eq_true hn))) (zaF ..) (zaJ ..) h
end

theorem copyU (b : Nat) (w : World) (h0 : w.cell? ⟨b, 0, none⟩ = some (.pointer (some ⟨b, 0, none⟩))) :
    Calls Tryz.prog 125 #[.pointer (some ⟨b, 0, none⟩)] w fun e w' => e = .returned (.tuple #[]) ∧ w' = w :=
  Any.Builder_copyCheck_used (P := Tryz.prog) (ρ := Tryz.lays105_ren) { Tryz.lays105 with } Tryz.Builder_Extra_105.toX72 b w h0
theorem copyF (b : Nat) (w : World) (h0 : w.cell? ⟨b, 0, none⟩ = some (.pointer none)) (hs : w.shape? b = some (110, 2)) (hf : w.frozen? ⟨b, 0, none⟩ = false) :
    Calls Tryz.prog 125 #[.pointer (some ⟨b, 0, none⟩)] w fun e w' => e = .returned (.tuple #[]) ∧ w' = w.setCell ⟨b, 0, none⟩ (.pointer (some ⟨b, 0, none⟩)) :=
  Any.Builder_copyCheck_fresh (P := Tryz.prog) (ρ := Tryz.lays105_ren) { Tryz.lays105 with } Tryz.Builder_Extra_105.toX72 b w h0 hs hf
theorem zpP (k : Nat) (d : D) (lo : Ow) : CtrO Tryz.prog 125 [.pv k 0] ((k, .bld 110 d) :: lo) (.tu []) ((k, .var [.pv k 0, d]) :: lo) :=
  zsa copyU copyF
end Go.Proofs.YtcajofhafpkbdaaGreatDoor.Flow


namespace Go.Proofs.YtcajofhafpkbdaaGreatDoor.Flow
open Go
def bl (l : List UInt8) : Ow := [(3, .bld 110 (.gs 200 1 l.length (bytesF l))), (200, .row 5 1 l.length)]
theorem zta (l xs : List UInt8) (g : Nat → List D) (hg : ∀ i, i < xs.length → g i = bytesF xs i) : catF l.length (bytesF l) xs.length g = bytesF (l ++ xs) := by
  funext j
  unfold catF
  by_cases h : j < l.length
  · rw [if_pos h]
    simp [bytesF, List.getD_eq_getElem?_getD, h, List.getElem?_append_left]
  · rw [if_neg h]
    by_cases h2 : j < l.length + xs.length
    · rw [if_pos h2, hg _ (by omega)]
      simp [bytesF, List.getD_eq_getElem?_getD, List.getElem?_append_right (show l.length ≤ j by omega)]
    · rw [if_neg h2]
      simp [bytesF, List.getD_eq_getElem?_getD, List.getElem?_append_right (show l.length ≤ j by omega)]
      rw [List.getElem?_eq_none (show l.length ≤ j by omega), List.getElem?_eq_none (show xs.length ≤ j - l.length by omega)]
theorem gs_tx (k : Nat) (l xs : List UInt8) (m : Nat) (g : Nat → List D) (hm : m = xs.length) (hg : ∀ i, i < xs.length → g i = bytesF xs i) :
    D.gs k 1 (l.length + m) (catF l.length (bytesF l) m g) = D.gs k 1 (l ++ xs).length (bytesF (l ++ xs)) := by
  subst hm
  rw [zta l xs g hg]
  simp
set_option maxRecDepth 100000 in
theorem zbm (l s : List UInt8) (hl : l.length + s.length ≤ 1099511627776) :
    CtrO Tryz.prog 97 [.pv 3 0, .s s] (bl l) (.tu [.i .i64 s.length, .v .nilIface]) (bl (l ++ s)) := by
  have hc := zpP 3 (.gs 200 1 l.length (bytesF l)) [(200, .row 5 1 l.length)]
  refine zaI Tryz.func97 rfl Tryz.ntmps97 Tryz.results97 rfl rfl rfl rfl rfl fun X hL hX => ?_
  repeat' (first |with_reducible (first |refine zag ?_|refine zaa ?_|refine zaf ?_|refine zad ?_|refine zaj ?_)|refine zab rfl rfl True.intro ?_|((first |refine zab rfl rfl ?_ ?_|refine zao rfl rfl ?_ ?_|refine zaw rfl ?_ ?_);focus (first |exact le_ rfl|((repeat' refine And.intro ?_ ?_)<;>first |omega|rfl|exact Nat.le_refl _)))|refine zbb rfl rfl ?_|refine zax (f := 125) 3 200 rfl rfl Tryz.call125 rfl rfl rfl rfl rfl rfl rfl rfl rfl hc ?_|fail)
  exact ⟨⟨.inr (congrArg (fun d => some (Own.var [.pv 3 0, d])) (gs_tx 200 l s _ _ rfl (fun _ _ => rfl))), by rw [List.length_append]; rfl, trivial⟩⟩
set_option maxRecDepth 100000 in
theorem zmN (l : List UInt8) (h0 : 0 < l.length) (_hl : l.length ≤ 1099511627776) :
    CtrO Tryz.prog 67 [.pv 3 0] (bl l) (.s l) [(3, .gone), (200, .gone)] := by
  have hp : Tryz.prog.underlying 139 = some (.pointer 5) := Tryz.underlying139
  have hz : Tryz.prog.cellsOf 5 = 1 := by kernel_rfl
  refine zaI Tryz.func67 rfl Tryz.ntmps67 Tryz.results67 rfl rfl rfl rfl rfl fun X hL hX => ?_
  repeat' (first |with_reducible (first |refine zag ?_|refine zaa ?_|refine zaf ?_|refine zad ?_|refine zaj ?_|refine zaB ?_)|refine zab rfl rfl True.intro ?_|with_reducible refine ⟨by kernel_rfl, ?_⟩|refine zbb rfl rfl ?_|refine ztb rfl rfl rfl rfl ?_|refine zsj rfl rfl rfl h0 ?_|refine ztX 3 l rfl rfl rfl rfl hp hz rfl rfl h0 ?_|fail)
  exact ⟨⟨⟨_, rfl⟩, ⟨_, rfl⟩, trivial⟩⟩
end Go.Proofs.YtcajofhafpkbdaaGreatDoor.Flow
