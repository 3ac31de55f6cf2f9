/- The texts FlowXg, FlowZn, K2, K3, K4, FlowXh, FlowXi, K5, one behind the other. -/
import Derived.Test.YtkkaamhocpmhkaaGreatDoorSA9
import Derived.Test.YtkkaamhocpmhkaaGreatDoorSA11
import Derived.Test.YtkkaamhocpmhkaaGreatDoorSA15
import Derived.Laws.BitsLemmas
namespace Go.Proofs.YtkkaamhocpmhkaaGreatDoor.Flow
open Go
section
variable {P : Program} {X : Ctx} {n : Nat} {fr : Fr} {ow : Ow} {Q : Exit → Fr → Ow → Prop}
theorem Rep.adoptVA {a : Act} {w : World} (v j k e z : Nat) (cs : List D) (f : Nat → List D) (hv : look v ow = some (.var cs)) (hj : cs.getD j .any = .nilS) (hk : look k ow = none) (hr : Rep X n (fF fr) (fO ow) a w) :
    Rep X n (fF fr) (fO ((v, .var (cs.set j (.ah k z 0))) :: (k, .arr e z 0 f) :: ow)) a w := by
  obtain ⟨S, r, hH, hI, hF, hd, hn, hρ⟩ := hr
  have hle : RhoLe r (updR r k (.row (.slice none 0 0) 0)) := RhoLe.new (hI.dom k hk)
  have hk0 : updR r k (.row (.slice none 0 0) 0) k = some (.row (.slice none 0 0) 0) := by simp [updR]
  have hc : Chg w w S none := ⟨rfl, rfl, rfl, Nat.le_refl _, fun _ _ _ => rfl, fun _ _ _ => rfl⟩
  have hI2 : Inv X w S (updR r k (.row (.slice none 0 0) 0)) (fO ((k, .arr e z 0 f) :: ow)) := by
    rw [zaA]
    exact hI.put hc (fun _ _ h => h) hle k _ (.row (.slice none 0 0) 0) ⟨_, hk0, .inl ⟨rfl, rfl⟩⟩ hk0 (fun j hj => by simp [updR, hj]) (fun b hb => by simp [Loc.block] at hb) (fun b hb => by cases hb) (fun _ _ h => .inl h)
  have hvk : v ≠ k := fun e => by subst e; rw [hv] at hk; cases hk
  have hv2 : fO ((k, .arr e z 0 f) :: ow) v = some (.var cs) := by
    rw [zaA]
    show (if v = k then _ else fO ow v) = _
    rw [if_neg hvk]
    exact hv
  have hobj := hI2.obj v _ hv2
  obtain ⟨b, cur, e0, h1, h2, h3, h4, h5⟩ := hobj
  refine ⟨S, updR r k (.row (.slice none 0 0) 0), hH, ?_, fun u => (hF u).mono (fun _ _ h => h) (fun _ _ _ => rfl) _ hle, hd, hn, hρ.trans hle⟩
  rw [zaA]
  refine hI2.put hc (fun _ _ h => h) (RhoLe.refl _) v _ (.blk b) ⟨b, cur, e0, h1, h2, by simpa using h3, fun i hi => ?_, h5⟩ h1 (fun _ _ => rfl) (fun b' hb' => .inr ⟨_, h1, hb'⟩) (fun b hb => by cases hb) (fun _ _ h => .inl h)
  have hi' : i < cs.length := by simpa using hi
  by_cases e : j = i
  · subst e
    have e1 : (cs.set j (D.ah k z 0)).getD j .any = .ah k z 0 := by simp [List.getD_eq_getElem?_getD, hi']
    rw [e1]
    have h6 := (h4 j hi').1
    rw [hj] at h6
    generalize cur.getD j undef = vj at h6 ⊢
    cases h6
    exact ⟨.ah _ k z 0 0 none _ 0 hk0 (Nat.le_refl _) (fun _ => .inl rfl) (fun h => by omega), rfl⟩
  · have e1 : (cs.set j (D.ah k z 0)).getD i .any = cs.getD i .any := by simp [List.getD_eq_getElem?_getD, e]
    rw [e1]
    exact h4 i hi'
theorem T.adoptVA {c : Code} (v j k e z : Nat) (cs : List D) (f : Nat → List D) (hv : look v ow = some (.var cs)) (hj : cs.getD j .any = .nilS) (hk : look k ow = none)
    (h : T P X n c fr ((v, .var (cs.set j (.ah k z 0))) :: (k, .arr e z 0 f) :: ow) Q) : T P X n c fr ow Q := fun a w hr => h a w (hr.adoptVA v j k e z cs f hv hj hk)
theorem Rep.freezeV {a : Act} {w : World} (v j k e z L : Nat) (cs : List D) (f : Nat → List D) (hv : look v ow = some (.var cs)) (hj : cs.getD j .any = .ah k z L) (hk : look k ow = some (.arr e z L f)) (hr : Rep X n (fF fr) (fO ow) a w) :
    Rep X n (fF fr) (fO ((v, .var (cs.set j (.gs k z L f))) :: (k, .row e z L) :: ow)) a w := by
  obtain ⟨S, r, hH, hI, hF, hd, hn, hρ⟩ := hr
  obtain ⟨tv, g1, g2⟩ := hI.obj k _ hk
  let S2 : Cells := fun b o => S b o ∨ (b < w.heap.size ∧ (Loc.row tv L).block = some b ∧ o < L * z)
  have hc : Chg w w S none := ⟨rfl, rfl, rfl, Nat.le_refl _, fun _ _ _ => rfl, fun _ _ _ => rfl⟩
  have hc2 : Chg w w S2 none := ⟨rfl, rfl, rfl, Nat.le_refl _, fun _ _ _ => rfl, fun _ _ _ => rfl⟩
  have hS2 : ∀ b o, S b o → S2 b o := fun _ _ h => .inl h
  have hH2 : Hist X w S2 := by
    refine hH.chg hc (fun b hb => by cases hb) hS2 (fun b o h => ?_)
    rcases h with h | ⟨h1, h2, _⟩
    · exact .inl h
    · exact .inr ⟨hI.low k _ b g1 h2, h1⟩
  have hI2 : Inv X w S2 r (fO ((k, .row e z L) :: ow)) := by
    rw [zaA]
    refine hI.put hc hS2 (RhoLe.refl r) k _ (.row tv L) ⟨tv, g1, ?_⟩ g1 (fun _ _ => rfl) (fun b hb => .inr ⟨_, g1, hb⟩) (fun b hb => by cases hb) (fun b o h => ?_)
    · rcases g2 with g2 | ⟨g, cap, cur, rfl, q1, q2, q3, q4, q5, q6, q7⟩
      · exact .inl g2
      · refine .inr ⟨g, cap, cur, rfl, q1, q2, q3, q4, fun o ho h => ?_⟩
        rcases h with h | ⟨_, _, h⟩
        · exact q7 o h
        · omega
    · rcases h with h | ⟨_, h, _⟩
      · exact .inl h
      · exact .inr (.inl h)
  have hvk : v ≠ k := fun e => by
    subst e
    rw [hv] at hk
    cases hk
  have hv2 : fO ((k, .row e z L) :: ow) v = some (.var cs) := by
    rw [zaA]
    show (if v = k then _ else fO ow v) = _
    rw [if_neg hvk]
    exact hv
  obtain ⟨b, cur, e0, h1, h2, h3, h4, h5⟩ := hI2.obj v _ hv2
  refine ⟨S2, r, hH2, ?_, fun u => (hF u).mono hS2 (fun _ _ _ => rfl) r (RhoLe.refl r), hd, hn, hρ⟩
  rw [zaA]
  refine hI2.put hc2 (fun _ _ h => h) (RhoLe.refl _) v _ (.blk b) ⟨b, cur, e0, h1, h2, by simpa using h3, fun i hi => ?_, h5⟩ h1 (fun _ _ => rfl) (fun b' hb' => .inr ⟨_, h1, hb'⟩) (fun b hb => by cases hb) (fun _ _ h => .inl h)
  have hi' : i < cs.length := by simpa using hi
  by_cases ej : j = i
  · subst ej
    have e1 : (cs.set j (D.gs k z L f)).getD j .any = .gs k z L f := by simp [List.getD_eq_getElem?_getD, hi']
    rw [e1]
    have h6 := (h4 j hi').1
    rw [hj] at h6
    generalize cur.getD j undef = vj at h6 ⊢
    cases h6 with
    | ah _ _ _ _ cap ax tv' L' hk0 hL hta hag =>
      rw [hk0] at g1
      cases g1
      refine ⟨.gs _ k z L f _ _ _ ?_ hk0 (Nat.le_refl _) hta, rfl⟩
      rcases g2 with ⟨rfl, h0⟩ | ⟨g, cap', cur', rfl, q1, q2, q3, q4, q5, q6, q7⟩
      · subst h0
        rcases hta rfl with e1 | ⟨_, a2, e1⟩
        · cases e1
          exact .sl _ _ _ _ _ _ (fun _ _ => undef) (Nat.le_refl _) (by unfold maxLen; omega) (fun i hi => by omega) (fun i j hi => by omega) (fun i j hi => by omega)
        · cases e1
          exact .sl _ _ _ _ _ _ (fun _ _ => undef) (Nat.le_refl _) (by unfold maxLen; omega) (fun i hi => by omega) (fun i j hi => by omega) (fun i j hi => by omega)
      · rcases hta rfl with e1 | ⟨e1, _⟩
        · cases e1
          have hlt : ∀ i j, i < L → j < z → i * z + j < L * z := fun i j hi hj => by
            have : (i + 1) * z ≤ L * z := Nat.mul_le_mul_right z hi
            rw [Nat.add_mul] at this
            omega
          refine .sl _ _ _ _ _ _ (fun i j => cur'.getD (i * z + j) undef) q2 q3 q5 (fun i j hi hj => ⟨g, 0, rfl, .inr ⟨(Array.getElem?_eq_some_iff.1 q1).1, rfl, by rw [Nat.zero_add]; exact hlt i j hi hj⟩, ?_⟩) (fun i j hi hj => (q6 i j hi hj).mono hS2 (fun _ _ _ => rfl) noRho (RhoLe.refl _))
          rw [Nat.zero_add, cell_of_row w g _ cur' e (0, 0) q1]
          have : L * z ≤ cap * z := Nat.mul_le_mul_right z q2
          have := hlt i j hi hj
          have : i * z + j < cur'.size := by omega
          simp [Array.getD_eq_getD_getElem?, this]
        · cases e1
  · have e1 : (cs.set j (D.gs k z L f)).getD i .any = cs.getD i .any := by simp [List.getD_eq_getElem?_getD, ej]
    rw [e1]
    exact h4 i hi'
theorem T.freezeV {c : Code} (v j k e z L : Nat) (cs : List D) (f : Nat → List D) (hv : look v ow = some (.var cs)) (hj : cs.getD j .any = .ah k z L) (hk : look k ow = some (.arr e z L f))
    (h : T P X n c fr ((v, .var (cs.set j (.gs k z L f))) :: (k, .row e z L) :: ow) Q) : T P X n c fr ow Q := fun a w hr => h a w (hr.freezeV v j k e z L cs f hv hj hk)
end

section
variable {P : Program} {X : Ctx} {n : Nat} {o : Oper} {fr : Fr} {ow : Ow} {k : Nat} {ty ty2 : TypeId} {x y : Operand}
theorem zjZ {w : World} {tp te : TypeId} {a : Addr} (hp : P.underlying tp = some (.pointer te)) (d : Nat) :
    (Op.equalIn (d + 1) tp (.pointer (some a)) (.pointer none)).run P w = .ok false w := by
  simp [Op.equalIn, run_underlying hp]
theorem zjK {te : TypeId} {neg : Bool} (hp : P.underlying ty = some (.pointer te)) (ho : o.op = .binOp (if neg then .neq else .eql) ty x y ty2) (hx : ev fr x = .pv k 0) (hy : ev fr y = .v (.pointer none)) (hd : dstOk o.dst n) :
    ∀ F' O', (∀ y ∈ o.op.operands.toList, evF F' y = evF (fF fr) y) → (∀ j ∈ ([] : List Nat), O' j = fO ow j) → StepAt P X n o F' O' (.b neg) [] := by
  intro F' O' he hO
  refine zap hd fun a w S r hH hI hr => ?_
  have hx' := hr x
  rw [he x (by simp [ho, Op.operands]), zaP, hx] at hx'
  have hy' := hr y
  rw [he y (by simp [ho, Op.operands]), zaP, hy] at hy'
  generalize hvx : a.eval x = vx at hx'
  generalize hvy : a.eval y = vy at hy'
  cases hx' with
  | pv _ _ b q hq =>
  cases hy'
  have hrun := zjZ (P := P) (w := w) (a := ⟨q, 0, none⟩) hp 9999
  cases neg with
  | false =>
    refine zaq hH hI rfl ?_ (show Rel S w r (.b false) (.bool _) from .b ..)
    have e1 : binOp .eql ty (.pointer (some ⟨q, 0, none⟩)) (.pointer none) = (do pure (.bool (← Op.equalIn (9999 + 1) ty (.pointer (some ⟨q, 0, none⟩)) (.pointer none)))) := rfl
    simp [execOp, ho, hvx, hvy, eqGuard, e1, hrun, Result.andThen]
  | true =>
    refine zaq hH hI rfl ?_ (show Rel S w r (.b true) (.bool _) from .b ..)
    have e1 : binOp .neq ty (.pointer (some ⟨q, 0, none⟩)) (.pointer none) = (do pure (.bool (!(← Op.equalIn (9999 + 1) ty (.pointer (some ⟨q, 0, none⟩)) (.pointer none))))) := rfl
    simp [execOp, ho, hvx, hvy, eqGuard, e1, hrun, Result.andThen]
end
section
variable {X : Ctx} {n : Nat} {all rest : List Oper} {fr : Fr} {ow : Ow} {tr : List (List Nat × List Nat)} {K : Fr → Ow → List (List Nat × List Nat) → Prop}
variable {t k : Nat} {ty ty' ty2 : TypeId} {ps : String} {af : Array Edge} {x y : Operand}
set_option maxRecDepth 100000 in
theorem zlv {te : TypeId} (hp : Tryz.prog.underlying ty = some (.pointer te)) (hx : ev fr x = .pv k 0) (hy : ev fr y = .v (.pointer none)) (hn : Nat.blt t n = true)
    (h : CT Tryz.prog X n all rest ((t, .b false) :: fr) ow (tr ++ [([], [])]) K) : CT Tryz.prog X n all (⟨some t, .binOp .eql ty x y ty2, ty', ps, af, none⟩ :: rest) fr ow tr K :=
  CT.cons (e := ⟨.b false, [], []⟩) (.plain rfl (zjK (neg := false) (o := ⟨some t, .binOp .eql ty x y ty2, ty', ps, af, none⟩) hp rfl hx hy (show t < n by simpa using hn))) (zaD ..) rfl h
end
section
variable {X : Ctx} {n : Nat} {all rest : List Oper} {fr : Fr} {ow : Ow} {tr : List (List Nat × List Nat)} {K : Fr → Ow → List (List Nat × List Nat) → Prop}
variable {k : Nat} {ty ty' t2 kt et : TypeId} {ps : String} {af : Array Edge} {x y : Operand} {key : List UInt8} {es : List (List UInt8 × D)}
end

section
variable {X : Ctx} {n : Nat} {all rest : List Oper} {fr : Fr} {ow : Ow} {tr : List (List Nat × List Nat)} {K : Fr → Ow → List (List Nat × List Nat) → Prop}
theorem r_ldA {t k e L i : Nat} {ty ty' el : TypeId} {x : Operand} {ps : String} {af : Array Edge} {f : Nat → List D} (d : D) (hx : ev fr x = .ap k e L i 0) (hk : look k ow = some (.arr el e L f)) (hz : B.sz ty = some (1, false)) (hn : Nat.blt t n = true) (hf : f i = [d]) (hi : i < L)
    (h : CT Tryz.prog X n all rest ((t, d) :: fr) ow (tr ++ [([k], [])]) K) : CT Tryz.prog X n all (⟨some t, .load ty x, ty', ps, af, none⟩ :: rest) fr ow tr K := by
  refine zab (d := d) (p := L = L ∧ e = e ∧ i < L ∧ partP (1, false) [d] 0) (rd := [k]) ?_ hn ⟨rfl, rfl, hi, Nat.le_refl 1⟩ h
  show loadD B _ ty (ev fr x) = _
  rw [hx]
  unfold loadD
  rw [hz]
  dsimp only
  rw [hk]
  dsimp only
  rw [hf]
  exact zbs _ _
end
theorem zhh : Tryz.prog.underlying 182 = some (.pointer 239) := by kernel_rfl
def bitF (l : List Bool) : Nat → List D := fun k => [.i .u8 ((byteB l k : Nat) : Int)]
def wO (l : List Bool) : Ow := [(70, .var [.ah 101 1 (lenB l.length), .i .i64 ((l.length : Nat) : Int)]), (101, .arr 5 1 (lenB l.length) (bitF l))]
theorem zhJ (n : Int) (h₀ : 0 ≤ n) (h₁ : n < 2 ^ 32) : IntKind.u32.wrap n = n := by rw [IntKind.wrap_u32]; omega
theorem zcn (k : IntKind) (x y : Int) : bits .or k x y = bits .or k y x := by simp [bits, BitVec.or_comm]
theorem zfM (l : List Bool) : (wO l).all (fun x => x.2.okIn [70, 101]) = true := rfl
theorem zlD (l : List Bool) (v : Nat) (hv : v < 4294967296) : bits .or .u8 ((byteB l (l.length / 8) : Nat) : Int) (IntKind.u8.wrap (IntKind.u8.wrap (bits .and .u32 (v : Nat) 1) * 2 ^ (((l.length : Nat) : Int) % 8).toNat)) = ((byteB (l ++ [v.testBit 0]) (l.length / 8) : Nat) : Int) := by
  have h1 := bits_mask .u32 32 (by decide) zhJ 1 (by decide) (v : Int) (by omega) (by omega)
  rw [show (2 : Int) ^ 1 - 1 = 1 by decide, show (2 : Int) ^ 1 = 2 by decide] at h1
  rw [h1]
  have h2 := zem l
  have h3 := zde l (l.length / 8)
  have ht : (((l.length : Nat) : Int) % 8).toNat = l.length % 8 := by omega
  rw [ht, zbV, if_pos rfl, Nat.testBit_zero]
  have h4 : l.length % 8 < 8 := Nat.mod_lt _ (by decide)
  generalize l.length % 8 = t at *
  generalize byteB l (l.length / 8) = a at *
  have hp : 2 ^ t ≤ 2 ^ 7 := Nat.pow_le_pow_right (by decide) (by omega)
  have hp' : (2 : Int) ^ t = ((2 ^ t : Nat) : Int) := by rw [Int.natCast_pow]; rfl
  have ha : ((a : Nat) : Int) < 2 ^ t := by rw [hp']; omega
  have hw1 : IntKind.u8.wrap ((v : Int) % 2) = (v : Int) % 2 := by rw [IntKind.wrap_u8]; omega
  rw [hw1]
  rcases Nat.mod_two_eq_zero_or_one v with hq | hq
  · have e1 : (v : Int) % 2 = 0 := by omega
    rw [e1, hq, Int.zero_mul, zcn]
    have h5 := bits_join .u8 8 (by decide) wraps_u8 t 0 (a : Int) (by decide) (Int.zero_emod _) (by decide) (by omega) ha (by omega)
    rw [show IntKind.u8.wrap 0 = 0 by decide, h5]
    simp
  · have e1 : (v : Int) % 2 = 1 := by omega
    rw [e1, hq, Int.one_mul, wraps_u8 _ (by rw [hp']; omega) (by rw [hp']; omega), zcn]
    have h5 := bits_join .u8 8 (by decide) wraps_u8 t (2 ^ t) (a : Int) (by rw [hp']; omega) (Int.emod_self ..) (by rw [hp']; omega) (by omega) ha (by omega)
    rw [h5, hp']
    simp
    omega
theorem zgf {f : Nat → List D} {l : List Bool} {b : Bool} {L idx : Nat} {x : Int} (hi : idx = l.length / 8) (hf : ∀ i, i < L → ¬ i = l.length / 8 → f i = bitF l i) (h1 : (f idx).length = 1) (hx : x = ((byteB (l ++ [b]) (l.length / 8) : Nat) : Int)) :
    ∀ i, i < L → putF f idx (putCells (f idx) 0 (D.i .u8 x).cells) i = bitF (l ++ [b]) i := fun i hL => by
  subst hi hx
  unfold putF
  by_cases h : i = l.length / 8
  · rw [if_pos h, h]
    have e : (f (l.length / 8)).drop 1 = [] := List.drop_of_length_le (by omega)
    show (f (l.length / 8)).take 0 ++ [D.i .u8 ((byteB (l ++ [b]) (l.length / 8) : Nat) : Int)] ++ (f (l.length / 8)).drop (0 + 1) = _
    rw [Nat.zero_add, e]
    rfl
  · rw [if_neg h, hf i hL h]
    unfold bitF
    rw [zbV, if_neg h]
set_option maxRecDepth 100000 in
set_option maxHeartbeats 4000000 in
theorem zir (l : List Bool) (v : Nat) (hv : v < 4294967296) (hl : l.length ≤ 1000000000) : CtrO Tryz.prog 237 [.pv 70 0, .i .u32 ((v : Nat) : Int)] (wO l) (.tu []) (wO (l ++ [v.testBit 0])) := by
  have hp := zlD l v hv
  have hz0 := zfp (n := l.length)
  have hm0 := zfi (n := l.length)
  have hnl : (l ++ [v.testBit 0]).length = l.length + 1 := by rw [List.length_append]; rfl
  refine zbF (ids := [70, 101]) (ids2 := [70, 101]) Tryz.func237 rfl Tryz.ntmps237 Tryz.results237 rfl rfl rfl (fun _ h => h) rfl (zfM _) fun X hL hX => ?_
  unfold wO
  rw [hnl]
  by_cases hz : l.length % 8 = 0
  · have hz' : ((l.length : Nat) : Int) % 8 = 0 := by omega
    obtain ⟨z1, z2⟩ := hz0 hz
    rw [z1]
    have hb0 : byteB l (l.length / 8) = 0 := zbv (by omega)
    have hidx : (((lenB l.length + 1 : Nat) : Int) - 1).toNat = l.length / 8 := by omega
    have hld : catF (lenB l.length) (bitF l) 1 (chunk 1 [.i .u8 0]) (((lenB l.length + 1 : Nat) : Int) - 1).toNat = [.i .u8 ((byteB l (l.length / 8) : Nat) : Int)] := by
      rw [hidx, ← z2]
      unfold catF
      rw [if_neg (Nat.lt_irrefl _), if_pos (by omega), z2, hb0, Nat.sub_self]
      rfl
    have hfin := zgf (f := catF (lenB l.length) (bitF l) 1 (chunk 1 [.i .u8 0])) (L := lenB l.length + 1) hidx (fun i hi hn => by
      unfold catF
      rw [if_pos (by omega)]) (by rw [hld]; rfl) hp
    repeat' (first |refine r_ldA _ rfl rfl rfl rfl hld (by omega) ?_|with_reducible (first |refine zag ?_|refine zaa ?_|refine zaf ?_|refine zac ?_|refine zaH ?_)|refine zab rfl rfl True.intro ?_|((first |refine zad rfl ?_ ?_)<;>intro<;>try (first |(exfalso;omega)))|((first |refine zab rfl rfl ?_ ?_|refine zaw rfl rfl ?_ ?_|refine zax rfl ?_ ?_);focus (first |omega|exact le_ rfl|((repeat' refine And.intro ?_ ?_)<;>omega)|((repeat' refine And.intro ?_ ?_)<;>first |omega|rfl|exact Nat.le_refl _|exact le_ rfl)))|with_reducible refine ⟨by kernel_rfl, ?_⟩|refine zlr rfl (.refl _) ⟨⟨rfl, ⟨_, _, rfl, rfl, fun i hi => .inl (hfin i hi)⟩, trivial⟩⟩|fail)
    all_goals trace_state
  · have hz' : ¬ ((l.length : Nat) : Int) % 8 = 0 := by omega
    obtain ⟨z1, z2⟩ := hm0 hz
    rw [z1]
    have hidx : (((lenB l.length : Nat) : Int) - 1).toNat = l.length / 8 := by omega
    have hp' : bits .or .u8 ((byteB l (((lenB l.length : Nat) : Int) - 1).toNat : Nat) : Int) (IntKind.u8.wrap (IntKind.u8.wrap (bits .and .u32 (v : Nat) 1) * 2 ^ (((l.length : Nat) : Int) % 8).toNat)) = ((byteB (l ++ [v.testBit 0]) (l.length / 8) : Nat) : Int) := by
      rw [hidx]
      exact hp
    have hfin := zgf (f := bitF l) (L := lenB l.length) hidx (fun i hi hn => rfl) rfl hp'
    repeat' (first |with_reducible (first |refine zag ?_|refine zaa ?_|refine zaf ?_|refine zac ?_|refine zah ?_|refine zaH ?_)|refine zab rfl rfl True.intro ?_|((first |refine zad rfl ?_ ?_)<;>intro<;>try (first |(exfalso;omega)))|((first |refine zab rfl rfl ?_ ?_|refine zax rfl ?_ ?_);focus (first |omega|exact le_ rfl|((repeat' refine And.intro ?_ ?_)<;>omega)|((repeat' refine And.intro ?_ ?_)<;>first |omega|rfl|exact Nat.le_refl _)))|with_reducible refine ⟨by kernel_rfl, ?_⟩|refine zlr rfl (.refl _) ⟨⟨rfl, ⟨_, _, rfl, rfl, fun i hi => .inl (hfin i hi)⟩, trivial⟩⟩|fail)
    all_goals trace_state

theorem zjv (v i : Nat) : ((v : Int) / 2 ^ (i : Int).toNat) = ((v / 2 ^ i : Nat) : Int) := by
  rw [Int.toNat_natCast, Int.natCast_ediv, Int.natCast_pow]
  rfl
theorem zln {v i : Nat} (hv : v < 4294967296) : v / 2 ^ i < 4294967296 := Nat.lt_of_le_of_lt (Nat.div_le_self ..) hv
theorem zjn (v i : Nat) : (v / 2 ^ i).testBit 0 = v.testBit i := by
  rw [Nat.testBit_div_two_pow, Nat.zero_add]
set_option maxRecDepth 100000 in
set_option maxHeartbeats 4000000 in
theorem zej (l : List Bool) (n : Int) (h0 : 0 ≤ n) (h1 : n ≤ 32) : CtrO Tryz.prog 236 [.pv 70 0, .i .i64 n] (wO l) (.i .i64 0) (wO l) := by
  refine zbF (ids := [70, 101]) (ids2 := [70, 101]) Tryz.func236 rfl Tryz.ntmps236 Tryz.results236 rfl rfl rfl (fun _ h => h) rfl (zfM _) fun X hL hX => ?_
  unfold wO
  repeat' (first |refine zlv zhh rfl rfl rfl ?_|with_reducible (first |refine zag ?_|refine zaa ?_|refine zaf ?_|refine zac ?_|refine zar ?_|refine zah ?_|refine zae ?_|refine zai ?_)|refine zab rfl rfl True.intro ?_|refine zam rfl rfl rfl rfl True.intro ?_|refine zak rfl ?_|((first |refine zad rfl ?_ ?_|refine zal rfl rfl ?_ ?_)<;>intro<;>try (first |(exfalso;omega)))|refine zbm rfl (.refl _) ⟨⟨rfl, ⟨_, _, rfl, rfl, fun i hi => .inl rfl⟩, trivial⟩⟩|fail)
  all_goals first
    | (exfalso; omega)
    | trace_state
set_option maxRecDepth 100000 in
set_option maxHeartbeats 4000000 in
theorem zdx (l : List Bool) (v n : Nat) (hv : v < 4294967296) (hn : n ≤ 32) (hl : l.length ≤ 900000000) : CtrO Tryz.prog 198 [.pv 70 0, .i .u32 ((v : Nat) : Int), .i .i64 ((n : Nat) : Int)] (wO l) (.i .i64 0) (wO (l ++ lowB v n)) := by
  have cR := zej l ((n : Nat) : Int) (by omega) (by omega)
  have cB := fun (k : List Bool) (w : Nat) (hw : w < 4294967296) (hk : k.length ≤ 1000000000) => zir k w hw hk
  have hok := zfM
  refine zbF (ids := [70, 101]) (ids2 := [70, 101]) Tryz.func198 rfl Tryz.ntmps198 Tryz.results198 rfl rfl rfl (fun _ h => h) rfl (zfM _) fun X hL hX => ?_
  unfold wO at cR cB hok ⊢
  repeat' (first |refine zjp (f := 236) [(70, .var [.ah 101 1 (lenB l.length), .i .i64 ((l.length : Nat) : Int)]), (101, .arr 5 1 (lenB l.length) (bitF l))] [70, 101] rfl (by decide) rfl rfl Tryz.call236 ⟨rfl, rfl, trivial⟩ rfl (hok l) rfl cR ?_|with_reducible (first |refine zag ?_|refine zaa ?_|refine zaf ?_|refine zac ?_|refine zae ?_)|refine zab rfl rfl True.intro ?_|refine zas rfl ?_|fail)
  clear cR
  refine T.loop hL (fun x : Nat × List Bool => [(0, .pv 70 0), (1, .i .u32 ((v : Nat) : Int)), (7, .i .i64 0), (14, .i .i64 ((n : Nat) : Int)), (15, .i .i64 x.1)]) (fun x => [(70, .var [.ah 101 1 (lenB x.2.length), .i .i64 ((x.2.length : Nat) : Int)]), (101, .arr 5 1 (lenB x.2.length) (bitF x.2))])
    (fun x => x.1 ≤ n ∧ x.2 = l ++ lowB v x.1) (fun x => n - x.1) (0, l) ⟨Nat.zero_le _, (List.append_nil l).symm⟩
    ⟨⟨rfl, rfl, rfl, rfl, rfl, trivial⟩, ⟨rfl, ⟨_, _, rfl, rfl, fun k hk => .inl rfl⟩, trivial⟩, rfl, by rw [hX]; simp⟩ ?_
  rintro ⟨i, k⟩ ⟨g1, g2⟩
  try dsimp only at g1 g2 ⊢
  by_cases hi : i < n
  rotate_left
  · have hi' : ¬ (i : Int) < (n : Int) := by omega
    rw [show n = i by omega, ← g2]
    repeat' (first |with_reducible (first |refine zag ?_|refine zaa ?_|refine zaf ?_|refine zac ?_|refine zar ?_|refine zan ?_|refine zao ?_)|refine zab rfl rfl True.intro ?_|((first |refine zad rfl ?_ ?_)<;>intro<;>try (first |(exfalso;omega)))|refine zat rfl ?_|refine zbm rfl (.refl _) ⟨⟨rfl, ⟨_, _, rfl, rfl, fun i hi => .inl rfl⟩, trivial⟩⟩|fail)
    all_goals first
      | (exfalso; omega)
      | trace_state
  have hi' : (i : Int) < (n : Int) := by omega
  have hkl : k.length ≤ 1000000000 := by
    rw [g2, List.length_append, zbh]
    omega
  have c := cB k (v / 2 ^ i) (zln hv) hkl
  rw [← zjv, zjn] at c
  have g3 : k ++ [v.testBit i] = l ++ lowB v (i + 1) := by rw [zfN, g2, List.append_assoc]
  clear g2 cB
  repeat' (first |refine zaS (f := 237) [(70, .var [.ah 101 1 (lenB k.length), .i .i64 ((k.length : Nat) : Int)]), (101, .arr 5 1 (lenB k.length) (bitF k))] [(70, .var [.ah 101 1 (lenB (k ++ [v.testBit i]).length), .i .i64 (((k ++ [v.testBit i]).length : Nat) : Int)]), (101, .arr 5 1 (lenB (k ++ [v.testBit i]).length) (bitF (k ++ [v.testBit i])))] [70, 101] [70, 101] rfl rfl (by decide) (fun _ h => h) (fun _ h h2 => absurd h h2) rfl rfl Tryz.call237 ⟨rfl, rfl, trivial⟩ rfl (hok k) (hok _) rfl c ?_|with_reducible (first |refine zag ?_|refine zaa ?_|refine zaf ?_|refine zac ?_|refine zah ?_|refine zae ?_|refine zai ?_)|refine zab rfl rfl True.intro ?_|((first |refine zad rfl ?_ ?_)<;>intro<;>try (first |(exfalso;omega)))|((first |refine zab rfl rfl ?_ ?_);focus (first |omega|((repeat' refine And.intro ?_ ?_)<;>omega)))|fail)
  all_goals first
    | exact ⟨(i + 1, k ++ [v.testBit i]), ⟨by dsimp only; omega, g3⟩, by dsimp only; omega, ⟨rfl, rfl, rfl, rfl, rfl, trivial⟩, ⟨rfl, ⟨_, _, rfl, rfl, fun k hk => .inl rfl⟩, trivial⟩, rfl, by rw [hX]; simp⟩
    | (exfalso; omega)
    | trace_state

set_option maxRecDepth 100000 in
set_option maxHeartbeats 4000000 in
theorem zfY (l : List Bool) (v n : Nat) (hv : v < 4294967296) (hn : n ≤ 32) (hl : l.length ≤ 900000000) : CtrO Tryz.prog 243 [.pv 70 0, .i .u32 ((v : Nat) : Int), .i .i64 ((n : Nat) : Int)] (wO l) (.i .i64 0) (wO (l ++ turnTo v n n)) := by
  have cR := zej l ((n : Nat) : Int) (by omega) (by omega)
  have cB := fun (k : List Bool) (w : Nat) (hw : w < 4294967296) (hk : k.length ≤ 1000000000) => zir k w hw hk
  have hok := zfM
  refine zbF (ids := [70, 101]) (ids2 := [70, 101]) Tryz.func243 rfl Tryz.ntmps243 Tryz.results243 rfl rfl rfl (fun _ h => h) rfl (zfM _) fun X hL hX => ?_
  unfold wO at cR cB hok ⊢
  repeat' (first |refine zjp (f := 236) [(70, .var [.ah 101 1 (lenB l.length), .i .i64 ((l.length : Nat) : Int)]), (101, .arr 5 1 (lenB l.length) (bitF l))] [70, 101] rfl (by decide) rfl rfl Tryz.call236 ⟨rfl, rfl, trivial⟩ rfl (hok l) rfl cR ?_|with_reducible (first |refine zag ?_|refine zaa ?_|refine zaf ?_|refine zac ?_|refine zae ?_)|refine zab rfl rfl True.intro ?_|refine zas rfl ?_|fail)
  clear cR
  refine T.loop hL (fun x : Nat × List Bool => [(0, .pv 70 0), (1, .i .u32 ((v : Nat) : Int)), (2, .i .i64 ((n : Nat) : Int)), (7, .i .i64 0), (14, .i .i64 ((n : Nat) : Int)), (15, .i .i64 x.1)]) (fun x => [(70, .var [.ah 101 1 (lenB x.2.length), .i .i64 ((x.2.length : Nat) : Int)]), (101, .arr 5 1 (lenB x.2.length) (bitF x.2))])
    (fun x => x.1 ≤ n ∧ x.2 = l ++ turnTo v n x.1) (fun x => n - x.1) (0, l) ⟨Nat.zero_le _, (List.append_nil l).symm⟩
    ⟨⟨rfl, rfl, rfl, rfl, rfl, rfl, trivial⟩, ⟨rfl, ⟨_, _, rfl, rfl, fun k hk => .inl rfl⟩, trivial⟩, rfl, by rw [hX]; simp⟩ ?_
  rintro ⟨i, k⟩ ⟨g1, g2⟩
  try dsimp only at g1 g2 ⊢
  by_cases hi : i < n
  rotate_left
  · have hi' : ¬ (i : Int) < (n : Int) := by omega
    rw [show i = n by omega] at g2
    rw [← g2]
    repeat' (first |with_reducible (first |refine zag ?_|refine zaa ?_|refine zaf ?_|refine zac ?_|refine zar ?_|refine zan ?_|refine zao ?_)|refine zab rfl rfl True.intro ?_|((first |refine zad rfl ?_ ?_)<;>intro<;>try (first |(exfalso;omega)))|refine zat rfl ?_|refine zbm rfl (.refl _) ⟨⟨rfl, ⟨_, _, rfl, rfl, fun i hi => .inl rfl⟩, trivial⟩⟩|fail)
    all_goals first
      | (exfalso; omega)
      | trace_state
  have hi' : (i : Int) < (n : Int) := by omega
  have hkl : k.length ≤ 1000000000 := by
    rw [g2, List.length_append, zbS]
    omega
  have c := cB k (v / 2 ^ (n - 1 - i)) (zln hv) hkl
  rw [← zjv, zjn] at c
  have hsub : ((n : Int) - 1 - (i : Int)) = ((n - 1 - i : Nat) : Int) := by omega
  rw [← hsub] at c
  have g3 : k ++ [v.testBit (n - 1 - i)] = l ++ turnTo v n (i + 1) := by rw [zgw, g2, List.append_assoc]
  clear g2 cB
  repeat' (first |refine zaS (f := 237) [(70, .var [.ah 101 1 (lenB k.length), .i .i64 ((k.length : Nat) : Int)]), (101, .arr 5 1 (lenB k.length) (bitF k))] [(70, .var [.ah 101 1 (lenB (k ++ [v.testBit (n - 1 - i)]).length), .i .i64 (((k ++ [v.testBit (n - 1 - i)]).length : Nat) : Int)]), (101, .arr 5 1 (lenB (k ++ [v.testBit (n - 1 - i)]).length) (bitF (k ++ [v.testBit (n - 1 - i)])))] [70, 101] [70, 101] rfl rfl (by decide) (fun _ h => h) (fun _ h h2 => absurd h h2) rfl rfl Tryz.call237 ⟨rfl, rfl, trivial⟩ rfl (hok k) (hok _) rfl c ?_|with_reducible (first |refine zag ?_|refine zaa ?_|refine zaf ?_|refine zac ?_|refine zah ?_|refine zae ?_|refine zai ?_)|refine zab rfl rfl True.intro ?_|((first |refine zad rfl ?_ ?_)<;>intro<;>try (first |(exfalso;omega)))|((first |refine zab rfl rfl ?_ ?_);focus (first |omega|((repeat' refine And.intro ?_ ?_)<;>omega)))|fail)
  all_goals first
    | exact ⟨(i + 1, k ++ [v.testBit (n - 1 - i)]), ⟨by dsimp only; omega, g3⟩, by dsimp only; omega, ⟨rfl, rfl, rfl, rfl, rfl, rfl, trivial⟩, ⟨rfl, ⟨_, _, rfl, rfl, fun k hk => .inl rfl⟩, trivial⟩, rfl, by rw [hX]; simp⟩
    | (exfalso; omega)
    | trace_state

section
variable {P : Program} {X : Ctx} {n : Nat} {fr : Fr} {ow : Ow} {Q : Exit → Fr → Ow → Prop}
theorem Rep.weakV {a : Act} {w : World} (v : Nat) (cs cs' : List D) (hv : look v ow = some (.var cs)) (hn0 : cs'.length = cs.length) (hw : ∀ j, j < cs.length → Weak (cs.getD j .any).shut (cs'.getD j .any) ∧ (cs'.getD j .any).one = true) (hr : Rep X n (fF fr) (fO ow) a w) :
    Rep X n (fF fr) (fO ((v, .var cs') :: ow)) a w := by
  obtain ⟨S, r, hH, hI, hF, hd, hn, hρ⟩ := hr
  have hc : Chg w w S none := ⟨rfl, rfl, rfl, Nat.le_refl _, fun _ _ _ => rfl, fun _ _ _ => rfl⟩
  obtain ⟨b, cur, e0, h1, h2, h3, h4, h5⟩ := hI.obj v _ hv
  refine ⟨S, r, hH, ?_, hF, hd, hn, hρ⟩
  rw [zaA]
  refine hI.put hc (fun _ _ h => h) (RhoLe.refl _) v _ (.blk b) ⟨b, cur, e0, h1, h2, h3.trans hn0.symm, fun i hi => ?_, h5⟩ h1 (fun _ _ => rfl) (fun b' hb' => .inr ⟨_, h1, hb'⟩) (fun b hb => by cases hb) (fun _ _ h => .inl h)
  have hi' : i < cs.length := by omega
  obtain ⟨h6, h7⟩ := h4 i hi'
  exact ⟨h6.shut.weak (hw i hi').1, (hw i hi').2⟩
theorem T.weakV {c : Code} (v : Nat) (cs cs' : List D) (hv : look v ow = some (.var cs)) (hn0 : cs'.length = cs.length) (hw : ∀ j, j < cs.length → Weak (cs.getD j .any).shut (cs'.getD j .any) ∧ (cs'.getD j .any).one = true) (h : T P X n c fr ((v, .var cs') :: ow) Q) : T P X n c fr ow Q := fun a w hr => h a w (hr.weakV v cs cs' hv hn0 hw)
def WCs : List D → List D → Prop
  | [], [] => True
  | a :: r, b :: s => (Weak a.shut b ∧ b.one = true) ∧ WCs r s
  | _, _ => False
theorem WCs.get : ∀ {cs cs' : List D}, WCs cs cs' → ∀ j, j < cs.length → Weak (cs.getD j .any).shut (cs'.getD j .any) ∧ (cs'.getD j .any).one = true
  | [], [], _, j, hj => absurd hj (Nat.not_lt_zero _)
  | _ :: _, _ :: _, h, 0, _ => h.1
  | _ :: _, _ :: _, h, j + 1, hj => by
    rw [List.getD_cons_succ, List.getD_cons_succ]
    exact WCs.get h.2 j (by simpa using hj)
  | [], _ :: _, h, _, _ => h.elim
  | _ :: _, [], h, _, _ => h.elim
theorem T.tellG {c : Code} (t k z L : Nat) (f g : Nat → List D) (ht : getD' t fr = .gs k z L f) (hw : Weak (.sl z L f) (.sl z L g)) (h : T P X n c ((t, .gs k z L g) :: fr) ow Q) : T P X n c fr ow Q := fun a w hr => by
  refine h a w ?_
  obtain ⟨S, r, hH, hI, hF, hd, hn, hρ⟩ := hr
  refine ⟨S, r, hH, hI, fun u => ?_, hd, hn, hρ⟩
  rw [zaD]
  simp only [updF]
  split
  · rename_i e
    have h1 := hF u
    have e1 : fF fr u = .gs k z L f := by rw [e]; exact ht
    rw [e1] at h1
    generalize a.tmps.getD u undef = v at h1
    cases h1 with
    | gs _ _ _ _ _ _ tv L' h2 hk hL ht2 => exact .gs _ k z L g _ tv L' (h2.weak hw) hk hL ht2
  · exact hF u
theorem T.tellS {c : Code} (t : Nat) (d d' : D) (ht : getD' t fr = d) (hw : Weak d.shut d') (h : T P X n c ((t, d') :: fr) ow Q) : T P X n c fr ow Q := fun a w hr => by
  refine h a w ?_
  obtain ⟨S, r, hH, hI, hF, hd, hn, hρ⟩ := hr
  refine ⟨S, r, hH, hI, fun u => ?_, hd, hn, hρ⟩
  rw [zaD]
  simp only [updF]
  split
  · rename_i e
    have h1 := hF u
    have e1 : fF fr u = d := by rw [e]; exact ht
    rw [e1] at h1
    exact h1.shut.weak hw
  · exact hF u
end
section
variable {P : Program} {X : Ctx} {n : Nat} {o : Oper} {fr : Fr} {ow : Ow} {cs : List D} {off : Nat} {ty ty2 : TypeId} {x y : Operand}
theorem zjb {te : TypeId} (hp : P.underlying ty = some (.pointer te)) (ho : o.op = .binOp .eql ty x y ty2) (hx : ev fr x = .rf cs off) (hy : ev fr y = .v (.pointer none)) (hd : dstOk o.dst n) :
    ∀ F' O', (∀ y ∈ o.op.operands.toList, evF F' y = evF (fF fr) y) → (∀ j ∈ ([] : List Nat), O' j = fO ow j) → StepAt P X n o F' O' (.b false) [] := by
  intro F' O' he hO
  refine zap hd fun a w S r hH hI hr => ?_
  have hx' := hr x
  rw [he x (by simp [ho, Op.operands]), zaP, hx] at hx'
  have hy' := hr y
  rw [he y (by simp [ho, Op.operands]), zaP, hy] at hy'
  generalize hvx : a.eval x = vx at hx'
  generalize hvy : a.eval y = vy at hy'
  cases hx' with
  | rf _ _ _ b q c h1 h2 h3 =>
  cases hy'
  have hrun := zjZ (P := P) (w := w) (a := ⟨b, q + off, none⟩) hp 9999
  refine zaq hH hI rfl ?_ (show Rel S w r (.b false) (.bool _) from .b ..)
  have e1 : binOp .eql ty (.pointer (some ⟨b, q + off, none⟩)) (.pointer none) = (do pure (.bool (← Op.equalIn (9999 + 1) ty (.pointer (some ⟨b, q + off, none⟩)) (.pointer none)))) := rfl
  simp [execOp, ho, hvx, hvy, eqGuard, e1, hrun, Result.andThen]
end
section
variable {X : Ctx} {n : Nat} {all rest : List Oper} {fr : Fr} {ow : Ow} {tr : List (List Nat × List Nat)} {K : Fr → Ow → List (List Nat × List Nat) → Prop}
variable {t off : Nat} {cs : List D} {ty ty' ty2 : TypeId} {ps : String} {af : Array Edge} {x y : Operand}
theorem zlB {te : TypeId} (hp : Tryz.prog.underlying ty = some (.pointer te)) (hx : ev fr x = .rf cs off) (hy : ev fr y = .v (.pointer none)) (hn : Nat.blt t n = true)
    (h : CT Tryz.prog X n all rest ((t, .b false) :: fr) ow (tr ++ [([], [])]) K) : CT Tryz.prog X n all (⟨some t, .binOp .eql ty x y ty2, ty', ps, af, none⟩ :: rest) fr ow tr K :=
  CT.cons (e := ⟨.b false, [], []⟩) (.plain rfl (zjb (o := ⟨some t, .binOp .eql ty x y ty2, ty', ps, af, none⟩) hp rfl hx hy (show t < n by simpa using hn))) (zaD ..) rfl h
end

section
variable {P : Program} {X : Ctx} {n : Nat} {fr : Fr} {ow ow' : Ow}
def resTs (fr : Fr) : List ResultVar → Option (List D)
  | [] => some []
  | .tmp t :: rs => fz (getD' t fr) fun d => match resTs fr rs with
    | some ds => some (d :: ds)
    | none => none
  | _ => none
theorem zec {a : Act} {w : World} {S : Cells} {r : Rho} (hF : ∀ t, Rel S w r (fF fr t) (a.tmps.getD t undef)) : ∀ {rs : List ResultVar} {ds : List D}, resTs fr rs = some ds →
    ∃ vs : List Value, (rs.mapM (resF a.tmps)).run P w = .ok vs w ∧ vs.length = ds.length ∧ ∀ j, j < ds.length → Rel S w r (ds.getD j .any) (vs.getD j undef)
  | [], ds, h => by
    cases h
    exact ⟨[], rfl, rfl, fun j hj => absurd hj (Nat.not_lt_zero _)⟩
  | .tmp t :: rs, ds, h => by
    simp only [resTs, zbs] at h
    split at h <;> first | (cases h; done) | skip
    rename_i ds' hds
    cases h
    obtain ⟨vs, h1, h2, h3⟩ := zec hF hds
    refine ⟨a.tmps.getD t undef :: vs, ?_, by simp [h2], fun j hj => ?_⟩
    · have h0 : (resF a.tmps (.tmp t)).run P w = .ok (a.tmps.getD t undef) w := rfl
      rw [List.mapM_cons]
      simp only [Sem.run_bind, h0, h1, Result.andThen_ok, Sem.run_pure]
    · cases j with
      | zero => exact hF t
      | succ j => simpa using h3 j (by simpa using hj)
  | .cell .. :: rs, ds, h => by
    simp only [resTs] at h
    cases h
def resT (fr : Fr) (rs : List ResultVar) : Option D :=
  match resTs fr rs with
  | some (a :: b :: r) => some (.tu (a :: b :: r))
  | _ => none
theorem zgl {fn : Func} {a : Act} {w : World} {S : Cells} {r : Rho} {d : D} {rs : List ResultVar} (hrs : fn.results = ⟨rs⟩) (hF : ∀ t, Rel S w r (fF fr t) (a.tmps.getD t undef)) (h : resT fr rs = some d) :
    ∃ v, (results fn a.tmps).run P w = .ok v w ∧ Rel S w r d v := by
  unfold resT at h
  split at h <;> first | (cases h; done) | skip
  rename_i e1 e2 es hds
  cases h
  obtain ⟨vs, h1, h2, h3⟩ := zec (P := P) (w := w) hF hds
  have hm : (fn.results.mapM (resF a.tmps)).run P w = .ok vs.toArray w := by
    rw [hrs, Array.mapM_eq_mapM_toList]
    simp only [Sem.run_map, h1, Result.andThen_ok]
  refine ⟨.tuple vs.toArray, ?_, .tu _ _ _ (by simpa using h2) (fun j hj => ?_)⟩
  · have hne : vs.length ≠ 1 := by rw [h2]; simp
    simp only [zbc, Sem.run_bind, hm, Result.andThen_ok, Sem.run_pure]
    rw [dif_neg (by simpa using hne)]
  · rw [zbZ]
    exact h3 j hj
theorem CtrO.of_TT {f : FuncId} {fn : Func} {c : Code} {N : Nat} {rs : List ResultVar} {args : List D} {d : D} (hf : P.funcs[f]? = some fn) (hb : fn.body = some c) (hN : fn.ntmps = N) (hrs : fn.results = ⟨rs⟩) (hlen : args.length ≤ N)
    (h : ∀ X : Ctx, Lent X → X.ids = ow.map (·.1) → T P X N c (slots 0 args) ow (fun e fr2 ow2 => (e = .ret ∨ e = .normal) ∧ ∃ d2, resT fr2 rs = some d2 ∧ Weak d2 d ∧ d.okS (ow'.map (·.1)) = true ∧ Le X fr2 ow2 [] ow')) :
    CtrO P f args ow d ow' := by
  refine CtrO.of0 fun X vs hdf0 hids hH hI hsz hrel => ?_
  have hL : Lent X := fun k hk => by
    rw [hids]
    cases hmem : look k ow with
    | none => exact absurd (hI.dom k hmem) hk
    | some o =>
      by_cases hm : k ∈ ow.map (·.1)
      · exact hm
      · rw [zaK hm] at hmem; cases hmem
  refine calls_of_wp hf hb ?_
  have hrep : Rep X N (fF (slots 0 args)) (fO ow) { tmps := vs ++ Array.replicate (fn.ntmps - vs.size) undef, defers := [] } X.w0 := by
    refine ⟨X.S0, X.r0, hH, hI, fun t => ?_, hdf0.symm, by simp; omega, RhoLe.refl _⟩
    show Rel _ _ _ (getD' t (slots 0 args)) _
    rw [zaZ]
    simp only [Nat.zero_le, if_true, Nat.sub_zero]
    by_cases ht : t < args.length
    · have := hrel t ht
      rw [Array.getD_eq_getD_getElem?, Array.getElem?_append_left (by omega), ← Array.getD_eq_getD_getElem?]
      exact this
    · rw [List.getD_eq_getElem?_getD, List.getElem?_eq_none (by omega)]
      exact .any ..
  refine wp_mono (h X hL hids _ _ hrep).wide fun e a w ⟨fr2, ow2, ⟨he, d2, h1, h2, h3, h4⟩, hrep2⟩ => ?_
  obtain ⟨S, r, hH2, hI2, hF2, hd2, _, hρ2⟩ := hrep2
  obtain ⟨v, hv, hvr⟩ := zgl (P := P) hrs hF2 h1
  have hok := h4.ok
  simp only [okAll, Bool.and_eq_true] at hok
  have hfin : ∃ v' S' r', Ending.returned v = .returned v' ∧ Rel S' w r' d v' ∧ Hist X w S' ∧ Inv X w S' r' (fO ow') ∧ RhoLe X.r0 r' := by
    refine ⟨v, S, keepR r (ow'.map (·.1)), rfl, ?_, hH2, hI2.keep h4.ow hok.2, fun k l hk => ?_⟩
    · exact (hvr.weak h2).okS h3
    · obtain ⟨l', g1, g2⟩ := hρ2 k l hk
      have : k ∈ ow'.map (·.1) := h4.ids k (hL k (by rw [hk]; simp))
      exact ⟨l', by simp only [keepR]; rw [if_pos this]; exact g1, g2⟩
  rcases he with rfl | rfl
  · exact ⟨hd2.trans hdf0, v, hv, hfin⟩
  · exact ⟨hd2.trans hdf0, v, hv, hfin⟩
end
section
variable {X : Ctx} {n : Nat} {fr : Fr} {ow : Ow}
def EndsT (rs : List ResultVar) (d : D) (lo : Ow) (e : Exit) (fr : Fr) (ow : Ow) : Prop :=
  match e with
  | .ret | .normal => ∃ d2, resT fr rs = some d2 ∧ Weak d2 d ∧ leOw ow lo
  | _ => False
theorem zmL {rs : List ResultVar} {d d2 : D} {lo : Ow} (h : resT fr rs = some d2) (he : Weak d2 d) (hlo : Stay (leOw ow lo)) : Rtn (EndsT rs d lo) fr ow := by
  unfold Rtn
  exact ⟨d2, h, he, hlo.out⟩
theorem zms {f : FuncId} {args : List D} {d : D} {fn : Func} {c : Code} {N : Nat} {rs : List ResultVar} {lo lo' : Ow} {ids ids2 : List Nat} (hf : Tryz.prog.funcs[f]? = some fn) (hb : fn.body = some c) (hN : fn.ntmps = N) (hrs : fn.results = ⟨rs⟩) (hlen : Nat.ble args.length N = true)
    (hi1 : lo.map (·.1) = ids) (hi2 : lo'.map (·.1) = ids2) (hsub : ∀ k ∈ ids, k ∈ ids2) (hd : d.okS ids2 = true) (hcs : lo'.all (fun x => x.2.okIn ids2) = true)
    (h : ∀ X : Ctx, Lent X → X.ids = ids → T Tryz.prog X N c (slots 0 args) lo (EndsT rs d lo')) : CtrO Tryz.prog f args lo d lo' := by
  refine CtrO.of_TT hf hb hN hrs (by simpa using hlen) fun X hL hi => (h X hL (hi.trans hi1)).mono fun e fr2 ow2 hq => ?_
  have key : ∀ d2, resT fr2 rs = some d2 → Weak d2 d → leOw ow2 lo' →
      ∃ d2, resT fr2 rs = some d2 ∧ Weak d2 d ∧ d.okS (lo'.map (·.1)) = true ∧ Le X fr2 ow2 [] lo' := by
    intro d2 h1 h2 h3
    refine ⟨d2, h1, h2, by rw [hi2]; exact hd, trivial, h3, ?_, fun k hk => ?_⟩
    · rw [hi2]
      simp only [okAll, List.all_nil, Bool.true_and]
      exact hcs
    · rw [hi2]
      exact hsub k (by rw [← hi.trans hi1]; exact hk)
  match e, hq with
  | .ret, ⟨d2, h1, h2, h3⟩ => exact ⟨.inl rfl, key d2 h1 h2 h3⟩
  | .normal, ⟨d2, h1, h2, h3⟩ => exact ⟨.inr rfl, key d2 h1 h2 h3⟩
end

set_option maxRecDepth 100000 in
set_option maxHeartbeats 4000000 in
theorem zkr : CtrO Tryz.prog 149 [] [] (.pv 70 0) [(70, .var [.nilS, .i .i64 0])] := by
  refine zbF (ids := []) (ids2 := [70]) Tryz.func149 rfl Tryz.ntmps149 Tryz.results149 rfl rfl rfl (fun _ h => by cases h) rfl rfl fun X hL hX => ?_
  repeat' (first |refine zeB 70 rfl rfl rfl rfl rfl ?_|with_reducible (first |refine zag ?_|refine zaa ?_|refine zaf ?_|refine zac ?_|refine zar ?_)|refine zab rfl rfl True.intro ?_|refine zbm rfl (.refl _) ⟨⟨rfl, trivial⟩⟩|fail)
  all_goals first
    | (exfalso; omega)
    | trace_state
theorem ziQ {len : Nat} {f : Nat → List D} {g : Nat → List D} (hg : ∀ j, j < len → g j = f j) (hf : ∀ j, j < len → ∃ n, f j = [.i .u8 n]) : Weak (.sl 1 len g) (.sl 1 len f) := .sl _ _ _ _ (fun k hk => by
    obtain ⟨n, hn⟩ := hf k hk
    rw [hg k hk, hn]
    exact ⟨rfl, rfl⟩) fun k j hk _ => by
    rw [hg k hk]
    exact .refl _
set_option maxRecDepth 100000 in
set_option maxHeartbeats 4000000 in
theorem zeo (len : Nat) (f : Nat → List D) (hf : ∀ j, j < len → ∃ n, f j = [.i .u8 n]) (hl : len ≤ 1000000) : Ctr Tryz.prog 53 [.sl 1 len f] (.sl 1 len f) := by
  refine zaE Tryz.func53 rfl Tryz.ntmps53 Tryz.results53 rfl rfl fun X hL hX => ?_
  rcases Nat.eq_zero_or_pos len with h0 | h0
  · subst h0
    refine T.slcase 0 1 f rfl ?_ ?_
    · skip
      repeat' (first |with_reducible (first |refine zag ?_|refine zaa ?_|refine zaf ?_|refine zac ?_|refine zar ?_|refine zaB ?_)|refine zab rfl rfl True.intro ?_|refine zas rfl ?_|refine zfT rfl ?_|fail)
      all_goals first
        | exact .nil ..
        | exact .sl _ _ _ _ (fun i hi => by omega) (fun i j hi hj => by omega)
        | trace_state
    · skip
      repeat' (first |with_reducible (first |refine zag ?_|refine zaa ?_|refine zaf ?_|refine zac ?_|refine zar ?_|refine zah ?_)|refine zab rfl rfl True.intro ?_|refine zak rfl ?_|((first |refine zaw rfl rfl ?_ ?_);focus (first |((repeat' refine And.intro ?_ ?_)<;>omega)|((repeat' refine And.intro ?_ ?_)<;>first |omega|rfl)))|refine zfT rfl ?_|fail)
      all_goals first
        | exact .nil ..
        | exact .sl _ _ _ _ (fun i hi => by omega) (fun i j hi hj => by omega)
        | trace_state
  · skip
    repeat' (first |with_reducible (first |refine zag ?_|refine zaa ?_|refine zaf ?_|refine zac ?_|refine zar ?_|refine zah ?_)|refine zab rfl rfl True.intro ?_|refine zak rfl ?_|((first |refine zab rfl rfl ?_ ?_|refine zaw rfl rfl ?_ ?_);focus (first |omega|((repeat' refine And.intro ?_ ?_)<;>omega)|((repeat' refine And.intro ?_ ?_)<;>first |omega|rfl)))|refine zfT rfl ?_|fail)
    all_goals
      rw [Nat.zero_add]
      refine ziQ (fun j hj => ?_) hf
      unfold catF
      rw [if_neg (Nat.not_lt_zero _), if_pos (by omega), Nat.sub_zero]
set_option maxRecDepth 100000 in
set_option maxHeartbeats 4000000 in
theorem zhv (l : List Bool) (hl : l.length ≤ 1000000) : CtrO Tryz.prog 152 [.pv 70 0] (wO l) (.sl 1 (lenB l.length) (bitF l)) [(70, .var [.gs 101 1 (lenB l.length) (bitF l), .i .i64 ((l.length : Nat) : Int)]), (101, .row 5 1 (lenB l.length))] := by
  have cC := zeo (lenB l.length) (bitF l) (fun j _ => ⟨_, rfl⟩) (by unfold lenB; omega)
  refine zbF (ids := [70, 101]) (ids2 := [70, 101]) Tryz.func152 rfl Tryz.ntmps152 Tryz.results152 rfl rfl rfl (fun _ h => h) rfl rfl fun X hL hX => ?_
  unfold wO
  refine T.freezeV 70 0 101 5 1 (lenB l.length) _ (bitF l) rfl rfl rfl ?_
  repeat' (first |refine zlv zhh rfl rfl rfl ?_|refine zaj (f := 53) rfl rfl Tryz.call53 rfl cC ?_|with_reducible (first |refine zag ?_|refine zaa ?_|refine zaf ?_|refine zac ?_|refine zar ?_|refine zah ?_)|refine zab rfl rfl True.intro ?_|refine zak rfl ?_|((first |refine zab rfl rfl ?_ ?_);focus (first |exact le_ rfl|((repeat' refine And.intro ?_ ?_)<;>omega)))|refine zbm rfl (.refl _) ⟨⟨rfl, rfl, trivial⟩⟩|fail)
  all_goals trace_state
def natF (ln : Nat → Nat) : Nat → List D := fun n => [.i .i64 ((ln n : Nat) : Int)]
def litN (n : Nat) : Nat := if n < 144 then 8 else if n < 256 then 9 else if n < 280 then 7 else 8
def fivN (_ : Nat) : Nat := 5
theorem zcu (k n : Nat) (ln : Nat → Nat) (g : Nat → List D) (v : Int) (hg : g 0 = [.i .i64 v]) (hv : v = ((ln n : Nat) : Int)) : D.gs k 1 (n + 1) (catF n (natF ln) 1 g) = D.gs k 1 (n + 1) (natF ln) := by
  have e : catF n (natF ln) 1 g = natF ln := by
    funext j
    unfold catF
    by_cases h : j < n
    · rw [if_pos h]
    · rw [if_neg h]
      by_cases h2 : j < n + 1
      · have : j = n := by omega
        subst this
        rw [if_pos (by omega), Nat.sub_self, hg, hv]
        rfl
      · rw [if_neg (by omega)]
  rw [e]
set_option maxRecDepth 100000 in
set_option maxHeartbeats 4000000 in
theorem zkh : CtrO Tryz.prog 200 [] [] (.tu [.gs 111 1 288 (natF litN), .gs 112 1 30 (natF fivN)]) [(111, .row 3 1 288), (112, .row 3 1 30)] := by
  refine zms (ids := []) (ids2 := [111, 112]) Tryz.func200 rfl Tryz.ntmps200 Tryz.results200 rfl rfl rfl (fun _ h => by cases h) rfl rfl fun X hL hX => ?_
  repeat' (first |refine T.adopt 0 111 3 1 (natF litN) rfl rfl ?_|refine T.adopt 1 112 3 1 (natF fivN) rfl rfl ?_|with_reducible (first |refine zag ?_|refine zaa ?_|refine zaf ?_|refine zac ?_|refine zae ?_)|refine zab rfl rfl True.intro ?_|fail)
  refine T.loop hL (fun n : Nat => [(0, .gs 111 1 n (natF litN)), (1, .gs 112 1 0 (natF fivN)), (3, .i .i64 n)]) (fun n => [(111, .row 3 1 n), (112, .row 3 1 0)])
    (fun n => n ≤ 288) (fun n => 288 - n) 0 (Nat.zero_le _)
    ⟨⟨rfl, rfl, rfl, trivial⟩, ⟨rfl, rfl, trivial⟩, rfl, by rw [hX]; simp⟩ ?_
  intro n g1
  try dsimp only at g1 ⊢
  by_cases hn : n < 288
  · have hn' : (n : Int) < 288 := by omega
    have hv : litN n = if n < 144 then 8 else if n < 256 then 9 else if n < 280 then 7 else 8 := rfl
    by_cases h1 : n < 144
    · rw [if_pos h1] at hv
      have h1' : (n : Int) < 144 := by omega
      repeat' (first |with_reducible (first |refine zag ?_|refine zaa ?_|refine zaf ?_|refine zac ?_|refine zah ?_|refine zae ?_|refine zai ?_)|refine zab rfl rfl True.intro ?_|refine zay rfl rfl rfl ?_|refine zas rfl ?_|((first |refine zad rfl ?_ ?_|refine zal rfl rfl ?_ ?_)<;>intro<;>try (first |(exfalso;omega)))|((first |refine zab rfl rfl ?_ ?_|refine zaw rfl rfl ?_ ?_);focus (first |omega|((repeat' refine And.intro ?_ ?_)<;>omega)|((repeat' refine And.intro ?_ ?_)<;>first |omega|rfl)))|fail)
      all_goals first
        | exact ⟨n + 1, by omega, by omega, ⟨zcu 111 n litN _ 8 rfl (by rw [hv]; rfl), rfl, rfl, trivial⟩, ⟨rfl, rfl, trivial⟩, rfl, by rw [hX]; simp⟩
        | (exfalso; omega)
        | trace_state
    rw [if_neg h1] at hv
    have h1' : ¬ (n : Int) < 144 := by omega
    by_cases h2 : n < 256
    · rw [if_pos h2] at hv
      have h2' : (n : Int) < 256 := by omega
      repeat' (first |with_reducible (first |refine zag ?_|refine zaa ?_|refine zaf ?_|refine zac ?_|refine zah ?_|refine zae ?_|refine zai ?_)|refine zab rfl rfl True.intro ?_|refine zam rfl rfl rfl rfl True.intro ?_|((first |refine zad rfl ?_ ?_|refine zal rfl rfl ?_ ?_)<;>intro<;>try (first |(exfalso;omega)))|((first |refine zab rfl rfl ?_ ?_|refine zaw rfl rfl ?_ ?_);focus (first |omega|((repeat' refine And.intro ?_ ?_)<;>omega)|((repeat' refine And.intro ?_ ?_)<;>first |omega|rfl)))|fail)
      all_goals first
        | exact ⟨n + 1, by omega, by omega, ⟨zcu 111 n litN _ 9 rfl (by rw [hv]; rfl), rfl, rfl, trivial⟩, ⟨rfl, rfl, trivial⟩, rfl, by rw [hX]; simp⟩
        | (exfalso; omega)
        | trace_state
    rw [if_neg h2] at hv
    have h2' : ¬ (n : Int) < 256 := by omega
    by_cases h3 : n < 280
    · rw [if_pos h3] at hv
      have h3' : (n : Int) < 280 := by omega
      repeat' (first |with_reducible (first |refine zag ?_|refine zaa ?_|refine zaf ?_|refine zac ?_|refine zah ?_|refine zae ?_|refine zai ?_)|refine zab rfl rfl True.intro ?_|refine zam rfl rfl rfl rfl True.intro ?_|((first |refine zad rfl ?_ ?_|refine zal rfl rfl ?_ ?_)<;>intro<;>try (first |(exfalso;omega)))|((first |refine zab rfl rfl ?_ ?_|refine zaw rfl rfl ?_ ?_);focus (first |omega|((repeat' refine And.intro ?_ ?_)<;>omega)|((repeat' refine And.intro ?_ ?_)<;>first |omega|rfl)))|fail)
      all_goals first
        | exact ⟨n + 1, by omega, by omega, ⟨zcu 111 n litN _ 7 rfl (by rw [hv]; rfl), rfl, rfl, trivial⟩, ⟨rfl, rfl, trivial⟩, rfl, by rw [hX]; simp⟩
        | (exfalso; omega)
        | trace_state
    · rw [if_neg h3] at hv
      have h3' : ¬ (n : Int) < 280 := by omega
      repeat' (first |with_reducible (first |refine zag ?_|refine zaa ?_|refine zaf ?_|refine zac ?_|refine zah ?_|refine zae ?_|refine zai ?_)|refine zab rfl rfl True.intro ?_|refine zam rfl rfl rfl rfl True.intro ?_|((first |refine zad rfl ?_ ?_|refine zal rfl rfl ?_ ?_)<;>intro<;>try (first |(exfalso;omega)))|((first |refine zab rfl rfl ?_ ?_|refine zaw rfl rfl ?_ ?_);focus (first |omega|((repeat' refine And.intro ?_ ?_)<;>omega)|((repeat' refine And.intro ?_ ?_)<;>first |omega|rfl)))|fail)
      all_goals first
        | exact ⟨n + 1, by omega, by omega, ⟨zcu 111 n litN _ 8 rfl (by rw [hv]; rfl), rfl, rfl, trivial⟩, ⟨rfl, rfl, trivial⟩, rfl, by rw [hX]; simp⟩
        | (exfalso; omega)
        | trace_state
  have hn' : ¬ (n : Int) < 288 := by omega
  have : n = 288 := by omega
  subst this
  repeat' (first |with_reducible (first |refine zag ?_|refine zaa ?_|refine zaf ?_|refine zac ?_|refine zan ?_|refine zae ?_|refine zao ?_)|refine zab rfl rfl True.intro ?_|refine zak rfl ?_|refine zat rfl ?_|fail)
  refine T.loop hL (fun n : Nat => [(0, .gs 111 1 288 (natF litN)), (1, .gs 112 1 n (natF fivN)), (26, .i .i64 n)]) (fun n => [(111, .row 3 1 288), (112, .row 3 1 n)])
    (fun n => n ≤ 30) (fun n => 30 - n) 0 (Nat.zero_le _)
    ⟨⟨rfl, rfl, rfl, trivial⟩, ⟨rfl, rfl, trivial⟩, rfl, by rw [hX]; simp⟩ ?_
  intro n g2
  try dsimp only at g2 ⊢
  by_cases hn : n < 30
  · have hn' : (n : Int) < 30 := by omega
    repeat' (first |with_reducible (first |refine zag ?_|refine zaa ?_|refine zaf ?_|refine zac ?_|refine zah ?_|refine zae ?_|refine zai ?_)|refine zab rfl rfl True.intro ?_|((first |refine zad rfl ?_ ?_)<;>intro<;>try (first |(exfalso;omega)))|((first |refine zab rfl rfl ?_ ?_|refine zaw rfl rfl ?_ ?_);focus (first |omega|((repeat' refine And.intro ?_ ?_)<;>omega)|((repeat' refine And.intro ?_ ?_)<;>first |omega|rfl)))|fail)
    all_goals first
      | exact ⟨n + 1, by omega, by omega, ⟨rfl, zcu 112 n fivN _ 5 rfl rfl, rfl, trivial⟩, ⟨rfl, rfl, trivial⟩, rfl, by rw [hX]; simp⟩
      | (exfalso; omega)
      | trace_state
  have hn' : ¬ (n : Int) < 30 := by omega
  have : n = 30 := by omega
  subst this
  repeat' (first |with_reducible (first |refine zag ?_|refine zaa ?_|refine zaf ?_|refine zac ?_|refine zar ?_|refine zan ?_|refine zao ?_)|refine zab rfl rfl True.intro ?_|refine zak rfl ?_|refine zat rfl ?_|refine zmL rfl (.refl _) ⟨⟨rfl, rfl, trivial⟩⟩|fail)
  all_goals first
    | (exfalso; omega)
    | trace_state
def krS (ln : Nat → Nat) : Nat → Nat
  | 0 => 0
  | m + 1 => krS ln m + 2 ^ (15 - ln m)
theorem zjH (ln : Nat → Nat) : ∀ m, krS ln m ≤ 32768 * m
  | 0 => Nat.le_refl _
  | m + 1 => by
    have := zjH ln m
    have h2 : 2 ^ (15 - ln m) ≤ 2 ^ 15 := Nat.pow_le_pow_right (by decide) (by omega)
    rw [krS]
    omega
set_option maxRecDepth 100000 in
set_option maxHeartbeats 4000000 in
theorem zeS (ln : Nat → Nat) (n : Nat) (hn : n ≤ 288) (hln : ∀ i, i < n → 1 ≤ ln i ∧ ln i ≤ 15) : Ctr Tryz.prog 238 [.sl 1 n (natF ln)] (.tu [.i .i64 ((krS ln n : Nat) : Int), .b true]) := by
  refine zaE Tryz.func238 rfl Tryz.ntmps238 Tryz.results238 rfl rfl fun X hL hX => ?_
  repeat' (first |with_reducible (first |refine zag ?_|refine zaa ?_|refine zaf ?_|refine zac ?_|refine zah ?_|refine zae ?_)|refine zab rfl rfl True.intro ?_|((first |refine zad rfl ?_ ?_)<;>intro<;>try (first |(exfalso;omega)))|fail)
  all_goals try (exfalso; omega)
  refine T.loop hL (fun i : Nat => [(4, .i .i64 ((krS ln i : Nat) : Int)), (10, .sl 1 n (natF ln)), (11, .i .i64 n), (12, .i .i64 i)]) (fun _ => [])
    (fun i => i ≤ n) (fun i => n - i) 0 (Nat.zero_le _)
    ⟨⟨rfl, rfl, rfl, rfl, trivial⟩, trivial, rfl, by rw [hX]; simp⟩ ?_
  intro i g1
  try dsimp only at g1 ⊢
  have hnat : (i : Int).toNat = i := Int.toNat_natCast i
  by_cases hi : i < n
  · have hi' : (i : Int) < (n : Int) := by omega
    have hv := hln i hi
    have hv1 : (1 : Int) ≤ ((ln (i : Int).toNat : Nat) : Int) := by rw [hnat]; omega
    have hv2 : ((ln (i : Int).toNat : Nat) : Int) ≤ 15 := by rw [hnat]; omega
    have hk := zjH ln i
    have hp : (2 : Int) ^ (15 - ((ln (i : Int).toNat : Nat) : Int)).toNat = ((2 ^ (15 - ln i) : Nat) : Int) := by
      rw [hnat, show (15 - ((ln i : Nat) : Int)).toNat = 15 - ln i by omega, Int.natCast_pow]
      rfl
    have h2 : 2 ^ (15 - ln i) ≤ 2 ^ 15 := Nat.pow_le_pow_right (by decide) (by omega)
    have hs : ((krS ln i : Nat) : Int) + 1 * (2 : Int) ^ (15 - ((ln (i : Int).toNat : Nat) : Int)).toNat = ((krS ln (i + 1) : Nat) : Int) := by
      rw [hp, krS]
      omega
    have hs1 := zjH ln (i + 1)
    repeat' (first |with_reducible (first |refine zag ?_|refine zaa ?_|refine zaf ?_|refine zac ?_|refine zah ?_|refine zae ?_|refine zai ?_)|refine zab rfl rfl True.intro ?_|refine zam rfl rfl rfl rfl True.intro ?_|((first |refine zad rfl ?_ ?_)<;>intro<;>try (first |(exfalso;omega)))|((first |refine zab rfl rfl ?_ ?_);focus (first |(rw [hp];omega)|omega|exact le_ rfl|((repeat' refine And.intro ?_ ?_)<;>omega)))|fail)
    all_goals first
      | exact ⟨i + 1, by omega, by omega, ⟨congrArg (D.i .i64) hs, rfl, rfl, rfl, trivial⟩, trivial, rfl, by rw [hX]; simp⟩
      | (exfalso; omega)
      | trace_state
  have hi' : ¬ (i : Int) < (n : Int) := by omega
  have : i = n := by omega
  subst this
  repeat' (first |with_reducible (first |refine zag ?_|refine zaa ?_|refine zaf ?_|refine zac ?_|refine zar ?_|refine zan ?_|refine zao ?_)|refine zab rfl rfl True.intro ?_|((first |refine zad rfl ?_ ?_)<;>intro<;>try (first |(exfalso;omega)))|refine zat rfl ?_|refine zau rfl ?_|fail)
  all_goals first
    | rfl
    | (exfalso; omega)
    | trace_state
theorem zmX : krS litN 288 = 32768 := by decide +kernel
theorem zmG : krS fivN 32 = 32768 := by decide +kernel
end Go.Proofs.YtkkaamhocpmhkaaGreatDoor.Flow
