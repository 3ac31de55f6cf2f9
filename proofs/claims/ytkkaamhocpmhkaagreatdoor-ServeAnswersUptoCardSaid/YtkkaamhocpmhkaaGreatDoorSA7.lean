/- The texts FlowM, one behind the other. -/
import Derived.Test.YtkkaamhocpmhkaaGreatDoorSA6
namespace Go.Proofs.YtkkaamhocpmhkaaGreatDoor.Flow
def memB (k : Nat) : List Nat → Bool
  | [] => false
  | x :: r => match Nat.beq x k with
    | true => true
    | false => memB k r
theorem zbn {k : Nat} : ∀ {l : List Nat}, memB k l = true → k ∈ l
  | [], h => by simp [memB] at h
  | x :: r, h => by
    simp only [memB] at h
    cases hb : Nat.beq x k with
    | true => have := Nat.eq_of_beq_eq_true hb; subst this; simp
    | false => rw [hb] at h; exact List.mem_cons_of_mem _ (zbn h)
def D.okI1 (ks : List Nat) : D → Bool
  | .pv k _ => memB k ks
  | .any | .v _ => true
  | c => c.plain
def D.okIn (ks : List Nat) : D → Bool
  | .pv k _ => memB k ks
  | .gs k _ _ _ => memB k ks
  | .ah k _ _ => memB k ks
  | .ap k _ _ _ _ => memB k ks
  | .mh k => memB k ks
  | .fn _ cs => cs.all (D.okI1 ks)
  | d => d.free
def keepR (r : Rho) (ks : List Nat) : Rho := fun k => if k ∈ ks then r k else none
theorem Rel.okIn {S : Cells} {w : World} {r : Rho} {d : D} {v : Value} (h : Rel S w r d v) {ks : List Nat} (hk : d.okIn ks = true) : Rel S w (keepR r ks) d v := by
  cases h with
  | pv _ k off b h => exact .pv _ k off b (by simp only [keepR]; rw [if_pos (zbn hk)]; exact h)
  | gs _ k esz len f _ tv L h hk' hL ht => exact .gs _ k esz len f v tv L ((h.plain rfl) _) (by simp only [keepR]; rw [if_pos (zbn hk)]; exact hk') hL ht
  | ah _ k esz len cap a tv L hk' hL ht ha => exact .ah _ k esz len cap a tv L (by simp only [keepR]; rw [if_pos (zbn hk)]; exact hk') hL ht ha
  | ap _ k esz len i off a tv L hk' hL ht ha => exact .ap _ k esz len i off a tv L (by simp only [keepR]; rw [if_pos (zbn hk)]; exact hk') hL ht ha
  | mh _ k b h => exact .mh _ k b (by simp only [keepR]; rw [if_pos (zbn hk)]; exact h)
  | e0 => exact .e0 ..
  | se _ z b a cap hm hb => exact .se _ z b a cap hm hb
  | rn _ k len f off b h => exact .rn _ k len f off b h
  | any => exact .any ..
  | i => exact .i ..
  | b => exact .b ..
  | s => exact .s ..
  | nilS => exact .nilS _
  | v => exact .v ..
  | fn _ f cs vs hn h =>
    refine .fn _ f cs vs hn fun j hj => ?_
    have hj1 := h j hj
    have hj2 : D.okI1 ks (cs.getD j .any) = true := by
      have hk' : cs.all (D.okI1 ks) = true := hk
      rw [List.all_eq_true] at hk'
      refine hk' _ ?_
      simp only [List.getD_eq_getElem?_getD, List.getElem?_eq_getElem hj, Option.getD_some]
      exact List.getElem_mem hj
    generalize cs.getD j .any = c at hj1 hj2
    generalize vs.getD j undef = u at hj1
    cases hj1 with
    | pv _ k off b h => exact .pv _ k off b (by simp only [keepR]; rw [if_pos (zbn hj2)]; exact h)
    | any => exact .any ..
    | v => exact .v ..
    | i => exact .i ..
    | b => exact .b ..
    | s => exact .s ..
    | nilS => exact .nilS _
    | fn _ f cs vs hn h => exact (Rel.fn _ f cs vs hn h).plain hj2 _
    | ag _ cs vs hn h => exact (Rel.ag _ cs vs hn h).plain hj2 _
    | tu _ cs vs hn h => exact (Rel.tu _ cs vs hn h).plain hj2 _
    | sl _ esz len f a cap c hc hm hl hcell hr => exact .sl _ esz len f a cap c hc hm hl hcell hr
    | rf _ cs off b o c hp hcell hr => exact .rf _ cs off b o c hp hcell hr
    | gs => simp [D.okI1, D.plain] at hj2
    | mh => simp [D.okI1, D.plain] at hj2
    | ah => simp [D.okI1, D.plain] at hj2
    | ap => simp [D.okI1, D.plain] at hj2
    | e0 => exact .e0 ..
    | se _ z b a cap hm hb => exact .se _ z b a cap hm hb
    | rn _ k len f off b h => exact .rn _ k len f off b h
  | ag _ cs vs hn h => exact (Rel.ag _ cs vs hn h).free hk _
  | tu _ cs vs hn h => exact (Rel.tu _ cs vs hn h).free hk _
  | sl _ esz len f a cap c hc hm hl hcell hr => exact .sl _ esz len f a cap c hc hm hl hcell hr
  | rf _ cs off b o c hp hcell hr => exact .rf _ cs off b o c hp hcell hr
def Own.okIn (ks : List Nat) : Own → Bool
  | .var cs => cs.all (D.okIn ks)
  | .row .. => true
  | .arr .. => true
  | .ob _ => true
  | .bld _ d => d.okIn ks
  | .mp es => es.all fun p => p.2.okIn ks
  | .bm .. => true
  | .gone => true
def leFr (fr : Fr) : Fr → Prop
  | [] => True
  | (t, e) :: r => getD' t fr = e ∧ leFr fr r
def WL (a b : List D) : Prop := a = b ∨ (b.length = a.length ∧ b.all D.plain = true ∧ ∀ j, j < a.length → Weak (a.getD j .any) (b.getD j .any))
def leOw (ow : Ow) : Ow → Prop
  | [] => True
  | (k, o) :: r => (match o with
      | .arr e z L f => ∃ L2 f2, look k ow = some (.arr e z L2 f2) ∧ L2 = L ∧ ∀ i, i < L → WL (f2 i) (f i)
      | .bld T d => look k ow = some (.bld T d) ∨ look k ow = some (.var [.pv k 0, d])
      | .gone => ∃ o2, look k ow = some o2
      | o => look k ow = some o) ∧ leOw ow r
def ownLe (k : Nat) (o2 o : Own) : Prop :=
  match o with
  | .arr e z L f => ∃ L2 f2, o2 = .arr e z L2 f2 ∧ L2 = L ∧ ∀ i, i < L → WL (f2 i) (f i)
  | .bld T d => o2 = .bld T d ∨ o2 = .var [.pv k 0, d]
  | .gone => True
  | o => o2 = o
def okAll (ks : List Nat) (fr : Fr) (ow : Ow) : Bool := fr.all (fun x => x.2.okIn ks) && ow.all (fun x => x.2.okIn ks)
theorem zgT {fr : Fr} : ∀ {fr' : Fr}, leFr fr fr' → ∀ t, getD' t fr' = .any ∨ (getD' t fr' = getD' t fr ∧ ∃ e, (t, e) ∈ fr' ∧ getD' t fr' = e)
  | [], _, t => .inl rfl
  | (u, e) :: r, h, t => by
    simp only [getD']
    cases hb : Nat.beq u t with
    | true =>
      have := Nat.eq_of_beq_eq_true hb
      subst this
      exact .inr ⟨h.1.symm, e, by simp, rfl⟩
    | false =>
      rcases zgT h.2 t with h1 | ⟨h1, e', h2, h3⟩
      · exact .inl h1
      · exact .inr ⟨h1, e', by simp [h2], h3⟩
theorem zgZ {ow : Ow} : ∀ {ow' : Ow}, leOw ow ow' → ∀ k o, look k ow' = some o → (∃ o2, look k ow = some o2 ∧ ownLe k o2 o) ∧ (k, o) ∈ ow'
  | [], _, k, o, h => by simp [look] at h
  | (u, e) :: r, h, k, o, hk => by
    simp only [look] at hk
    cases hb : Nat.beq u k with
    | true =>
      rw [hb] at hk
      have := Nat.eq_of_beq_eq_true hb
      subst this
      cases hk
      refine ⟨?_, by simp⟩
      cases e with
      | arr e z L f =>
        obtain ⟨L2, f2, h1, h2⟩ := h.1
        exact ⟨_, h1, L2, f2, rfl, h2⟩
      | var cs => exact ⟨_, h.1, rfl⟩
      | row e z L => exact ⟨_, h.1, rfl⟩
      | ob x => exact ⟨_, h.1, rfl⟩
      | mp es => exact ⟨_, h.1, rfl⟩
      | bm e len f => exact ⟨_, h.1, rfl⟩
      | bld T d =>
        rcases h.1 with h1 | h1
        · exact ⟨_, h1, .inl rfl⟩
        · exact ⟨_, h1, .inr rfl⟩
      | gone =>
        obtain ⟨o2, h1⟩ := h.1
        exact ⟨_, h1, trivial⟩
    | false =>
      rw [hb] at hk
      have := zgZ h.2 k o hk
      exact ⟨this.1, by simp [this.2]⟩
theorem zaK {ow : Ow} {k : Nat} (h : k ∉ ow.map (·.1)) : look k ow = none := by
  induction ow with
  | nil => rfl
  | cons x r ih =>
    obtain ⟨u, e⟩ := x
    simp only [List.map_cons, List.mem_cons, not_or] at h
    simp only [look]
    cases hb : Nat.beq u k with
    | true => exact absurd (Nat.eq_of_beq_eq_true hb).symm h.1
    | false => exact ih h.2
theorem zaT {ow : Ow} {k : Nat} (h : k ∈ ow.map (·.1)) : ∃ o, look k ow = some o := by
  induction ow with
  | nil => simp at h
  | cons x r ih =>
    obtain ⟨u, e⟩ := x
    simp only [List.map_cons, List.mem_cons] at h
    simp only [look]
    cases hb : Nat.beq u k with
    | true => exact ⟨e, rfl⟩
    | false =>
      rcases h with h | h
      · subst h; rw [Nat.beq_refl] at hb; cases hb
      · exact ih h
section
variable {P : Program} {X : Ctx} {n : Nat} {fr fr' : Fr} {ow ow' : Ow} {Q : Exit → Fr → Ow → Prop}
theorem Inv.keep {w : World} {S : Cells} {r : Rho} (hI : Inv X w S r (fO ow)) (h : leOw ow ow') (hok : ow'.all (fun x => x.2.okIn (ow'.map (·.1))) = true) : Inv X w S (keepR r (ow'.map (·.1))) (fO ow') where
  obj := fun k o hk => by
    obtain ⟨⟨o2, h1, hle⟩, h2⟩ := zgZ h k o hk
    have hmem : k ∈ ow'.map (·.1) := List.mem_map.2 ⟨(k, o), h2, rfl⟩
    have hkr : keepR r (ow'.map (·.1)) k = r k := if_pos hmem
    have ho := hI.obj k o2 h1
    cases o with
    | var cs =>
      obtain rfl : o2 = .var cs := hle
      obtain ⟨b, cur, e, g1, g2, g3, g4, g5⟩ := ho
      refine ⟨b, cur, e, hkr.trans g1, g2, g3, fun j hj => ⟨(g4 j hj).1.okIn ?_, (g4 j hj).2⟩, g5⟩
      rw [List.all_eq_true] at hok
      have := hok (k, .var cs) h2
      simp only [Own.okIn, List.all_eq_true] at this
      refine this _ ?_
      simp only [List.getD_eq_getElem?_getD, List.getElem?_eq_getElem hj, Option.getD_some]
      exact List.getElem_mem hj
    | row e esz len =>
      obtain rfl : o2 = .row e esz len := hle
      obtain ⟨tv, g1, g2⟩ := ho
      exact ⟨tv, hkr.trans g1, g2⟩
    | ob x =>
      obtain rfl : o2 = .ob x := hle
      obtain ⟨b, g1, g2⟩ := ho
      exact ⟨b, hkr.trans g1, g2⟩
    | bm e len f =>
      obtain rfl : o2 = .bm e len f := hle
      obtain ⟨b, cap, cur, fz, g1, g2⟩ := ho
      exact ⟨b, cap, cur, fz, hkr.trans g1, g2⟩
    | mp es =>
      obtain rfl : o2 = .mp es := hle
      obtain ⟨b, arr, clock, g1, g2, g3, g4, g6, g5⟩ := ho
      refine ⟨b, arr, clock, hkr.trans g1, g2, g3, fun j hj => ⟨(g4 j hj).1, (g4 j hj).2.1.okIn ?_, (g4 j hj).2.2⟩, g6, g5⟩
      rw [List.all_eq_true] at hok
      have := hok (k, .mp es) h2
      simp only [Own.okIn, List.all_eq_true] at this
      refine this _ ?_
      simp only [List.getD_eq_getElem?_getD, List.getElem?_eq_getElem hj, Option.getD_some]
      exact List.getElem_mem hj
    | bld T d =>
      have hd : d.okIn (ow'.map (·.1)) = true := by
        rw [List.all_eq_true] at hok
        exact hok (k, .bld T d) h2
      rcases hle with rfl | rfl
      · obtain ⟨b, cur, e, g1, g2, g3, g4, g6, g5⟩ := ho
        exact ⟨b, cur, e, hkr.trans g1, g2, g3, g4, ⟨g6.1.okIn hd, g6.2⟩, g5⟩
      · obtain ⟨b, cur, e, g1, g2, g3, g4, g5⟩ := ho
        have q0 := (g4 0 (by simp)).1
        have q1 := g4 1 (by simp)
        refine ⟨b, cur, e, hkr.trans g1, g2, g3, .inr ?_, ⟨q1.1.okIn hd, q1.2⟩, g5⟩
        generalize cur.getD 0 undef = v0 at q0
        cases q0 with
        | pv _ _ _ b' h4 =>
          rw [g1] at h4
          cases h4
          rfl
    | gone =>
      obtain ⟨l, g1, g2⟩ := ho.toGone
      exact ⟨l, hkr.trans g1, g2⟩
    | arr e esz len f =>
      obtain ⟨L2, f2, rfl, rfl, hff⟩ := hle
      obtain ⟨tv, g1, g2⟩ := ho
      refine ⟨tv, hkr.trans g1, ?_⟩
      rcases g2 with g2 | ⟨g, cap, cur, q0, q1, q2, q3, q4, q5, q6, q7⟩
      · exact .inl g2
      · refine .inr ⟨g, cap, cur, q0, q1, q2, q3, q4, fun i hi => ?_, fun i j hi hj => ?_, q7⟩
        · rcases hff i hi with h | ⟨h1, h2, _⟩
          · rw [← h]; exact q5 i hi
          · exact ⟨h1.trans (q5 i hi).1, h2⟩
        · rcases hff i hi with h | ⟨_, _, h3⟩
          · rw [← h]; exact q6 i j hi hj
          · exact (q6 i j hi hj).weak (h3 j (by rw [(q5 i hi).1]; exact hj))
  dom := fun k hk => by
    by_cases hm : k ∈ ow'.map (·.1)
    · obtain ⟨o, ho⟩ := zaT hm
      rw [show fO ow' k = look k ow' from rfl, ho] at hk
      cases hk
    · exact if_neg hm
  apart := fun k k' l l' b hkk hl hl' hb => by
    simp only [keepR] at hl hl'
    split at hl <;> first | (cases hl; done) | skip
    split at hl' <;> first | (cases hl'; done) | skip
    exact hI.apart k k' l l' b hkk hl hl' hb
  low := fun k l b hl hb => by
    simp only [keepR] at hl
    split at hl <;> first | (cases hl; done) | skip
    exact hI.low k l b hl hb
structure Le (X : Ctx) (fr : Fr) (ow : Ow) (fr' : Fr) (ow' : Ow) : Prop where
  fr : leFr fr fr'
  ow : leOw ow ow'
  ok : okAll (ow'.map (·.1)) fr' ow' = true
  ids : ∀ k ∈ X.ids, k ∈ ow'.map (·.1)
def Lent (X : Ctx) : Prop := ∀ k, X.r0 k ≠ none → k ∈ X.ids
theorem Rep.le {a : Act} {w : World} (h : Rep X n (fF fr) (fO ow) a w) (hl : Le X fr ow fr' ow') (hL : Lent X) : Rep X n (fF fr') (fO ow') a w := by
  obtain ⟨S, r, hH, hI, hF, hd, hn, hρ⟩ := h
  have hok := hl.ok
  simp only [okAll, Bool.and_eq_true] at hok
  refine ⟨S, keepR r (ow'.map (·.1)), hH, hI.keep hl.ow hok.2, fun t => ?_, hd, hn, fun k l hk => ?_⟩
  · rcases zgT hl.fr t with h1 | ⟨h1, e, h2, h3⟩
    · show Rel _ _ _ (getD' t fr') _
      rw [h1]
      exact .any ..
    · show Rel _ _ _ (getD' t fr') _
      have h4 := hok.1
      rw [List.all_eq_true] at h4
      have h5 := h4 (t, e) h2
      refine Rel.okIn ?_ (by rw [h3]; exact h5)
      rw [h1]
      exact hF t
  · obtain ⟨l', h1, h2⟩ := hρ k l hk
    have : k ∈ ow'.map (·.1) := hl.ids k (hL k (by rw [hk]; simp))
    exact ⟨l', by simp only [keepR]; rw [if_pos this]; exact h1, h2⟩
theorem T.loop {c : Code} {ι : Type} (hL : Lent X) (mkF : ι → Fr) (mkO : ι → Ow) (I : ι → Prop) (μ : ι → Nat) (x0 : ι) (h0 : I x0) (hle : Le X fr ow (mkF x0) (mkO x0))
    (h : ∀ x, I x → T P X n c (mkF x) (mkO x) (thenQ (fun fr ow => ∃ y, I y ∧ μ y < μ x ∧ Le X fr ow (mkF y) (mkO y)) Q)) : T P X n (.loop c) fr ow Q := fun a w hr => by
  refine Wc.loop_ghost (fun m a w => ∃ x, I x ∧ μ x = m ∧ Rep X n (fF (mkF x)) (fO (mkO x)) a w) (μ x0) ⟨x0, h0, rfl, hr.le hle hL⟩ fun m a w ⟨x, hI, hm, hrep⟩ => ?_
  refine (h x hI a w hrep).mono fun e a' w' ⟨fr', ow', hq, hrep'⟩ => ?_
  cases e with
  | normal =>
    obtain ⟨y, hy, hlt, hley⟩ := hq
    exact ⟨μ y, by omega, y, hy, rfl, hrep'.le hley hL⟩
  | _ => exact ⟨fr', ow', hq, hrep'⟩
theorem T.adopt {c : Code} (t k e z : Nat) (f : Nat → List D) (ht : getD' t fr = .nilS) (hk : look k ow = none) (h : T P X n c ((t, .gs k z 0 f) :: fr) ((k, .row e z 0) :: ow) Q) : T P X n c fr ow Q := fun a w hr => by
  refine h a w ?_
  obtain ⟨S, r, hH, hI, hF, hd, hn, hρ⟩ := hr
  have hv : a.tmps.getD t undef = .slice none 0 0 := by
    have := hF t
    rw [show fF fr t = .nilS from ht] at this
    generalize a.tmps.getD t undef = v at this
    cases this
    rfl
  have hle : RhoLe r (updR r k (.row (.slice none 0 0) 0)) := RhoLe.new (hI.dom k hk)
  have hk0 : updR r k (.row (.slice none 0 0) 0) k = some (.row (.slice none 0 0) 0) := by simp [updR]
  have hc : Chg w w S none := ⟨rfl, rfl, rfl, Nat.le_refl _, fun _ _ _ => rfl, fun _ _ _ => rfl⟩
  refine ⟨S, updR r k (.row (.slice none 0 0) 0), hH, ?_, fun u => ?_, hd, hn, hρ.trans hle⟩
  · rw [zaA]
    exact hI.put hc (fun _ _ h => h) hle k _ (.row (.slice none 0 0) 0) ⟨_, hk0, .inl ⟨rfl, rfl⟩⟩ hk0 (fun j hj => by simp [updR, hj]) (fun b hb => by simp [Loc.block] at hb) (fun b hb => by cases hb) (fun _ _ h => .inl h)
  · rw [zaD]
    show Rel _ _ _ (if u = t then _ else fF fr u) _
    by_cases e : u = t
    · subst e
      rw [if_pos rfl, hv]
      refine .gs _ k z 0 f _ _ 0 (.sl _ _ _ _ none 0 (fun _ _ => undef) (Nat.le_refl _) (by unfold maxLen; omega) (fun i hi => by omega) (fun i j hi => by omega) (fun i j hi => by omega)) hk0 (Nat.le_refl _) (fun _ => .inl rfl)
    · rw [if_neg e]
      exact (hF u).mono (fun _ _ h => h) (fun _ _ _ => rfl) _ hle
theorem Rep.adoptA {a : Act} {w : World} (t k e z : Nat) (f : Nat → List D) (ht : getD' t fr = .nilS) (hk : look k ow = none) (hr : Rep X n (fF fr) (fO ow) a w) : Rep X n (fF ((t, .ah k z 0) :: fr)) (fO ((k, .arr e z 0 f) :: ow)) a w := by
  obtain ⟨S, r, hH, hI, hF, hd, hn, hρ⟩ := hr
  have hv : a.tmps.getD t undef = .slice none 0 0 := by
    have := hF t
    rw [show fF fr t = .nilS from ht] at this
    generalize a.tmps.getD t undef = v at this
    cases this
    rfl
  have hle : RhoLe r (updR r k (.row (.slice none 0 0) 0)) := RhoLe.new (hI.dom k hk)
  have hk0 : updR r k (.row (.slice none 0 0) 0) k = some (.row (.slice none 0 0) 0) := by simp [updR]
  have hc : Chg w w S none := ⟨rfl, rfl, rfl, Nat.le_refl _, fun _ _ _ => rfl, fun _ _ _ => rfl⟩
  refine ⟨S, updR r k (.row (.slice none 0 0) 0), hH, ?_, fun u => ?_, hd, hn, hρ.trans hle⟩
  · rw [zaA]
    exact hI.put hc (fun _ _ h => h) hle k _ (.row (.slice none 0 0) 0) ⟨_, hk0, .inl ⟨rfl, rfl⟩⟩ hk0 (fun j hj => by simp [updR, hj]) (fun b hb => by simp [Loc.block] at hb) (fun b hb => by cases hb) (fun _ _ h => .inl h)
  · rw [zaD]
    show Rel _ _ _ (if u = t then _ else fF fr u) _
    by_cases e : u = t
    · subst e
      rw [if_pos rfl, hv]
      exact .ah _ k z 0 0 none _ 0 hk0 (Nat.le_refl _) (fun _ => .inl rfl) (fun h => by omega)
    · rw [if_neg e]
      exact (hF u).mono (fun _ _ h => h) (fun _ _ _ => rfl) _ hle
theorem T.adoptA {c : Code} (t k e z : Nat) (f : Nat → List D) (ht : getD' t fr = .nilS) (hk : look k ow = none) (h : T P X n c ((t, .ah k z 0) :: fr) ((k, .arr e z 0 f) :: ow) Q) : T P X n c fr ow Q :=
  fun a w hr => h a w (hr.adoptA t k e z f ht hk)
theorem T.slcase {c : Code} (t z : Nat) (f : Nat → List D) (ht : getD' t fr = .sl z 0 f) (h1 : T P X n c ((t, .se z false) :: fr) ow Q) (h2 : T P X n c ((t, .se z true) :: fr) ow Q) : T P X n c fr ow Q := fun a w hr => by
  have key : ∃ b, Rep X n (fF ((t, .se z b) :: fr)) (fO ow) a w := by
    obtain ⟨S, r, hH, hI, hF, hd, hn, hρ⟩ := hr
    have hv := hF t
    rw [show fF fr t = .sl z 0 f from ht] at hv
    obtain ⟨ax, cap, c1, hax, _, hm, _⟩ := zaU hv
    refine ⟨ax.isSome, S, r, hH, hI, fun u => ?_, hd, hn, hρ⟩
    rw [zaD]
    show Rel _ _ _ (if u = t then _ else fF fr u) _
    by_cases e : u = t
    · subst e
      rw [if_pos rfl, hax]
      exact .se _ z _ ax cap hm rfl
    · rw [if_neg e]
      exact hF u
  obtain ⟨b, hb⟩ := key
  cases b with
  | false => exact h1 a w hb
  | true => exact h2 a w hb
def setAll (ts : List Nat) (d : D) (fr : Fr) : Fr :=
  match ts with
  | [] => fr
  | t :: r => (t, d) :: setAll r d fr
theorem zhR {ts : List Nat} {d : D} {fr : Fr} {u : Nat} : (u ∈ ts ∧ getD' u (setAll ts d fr) = d) ∨ getD' u (setAll ts d fr) = getD' u fr := by
  induction ts with
  | nil => exact .inr rfl
  | cons t r ih =>
    simp only [setAll, getD']
    cases hb : Nat.beq t u with
    | true =>
      have := Nat.eq_of_beq_eq_true hb
      subst this
      exact .inl ⟨by simp, rfl⟩
    | false =>
      rcases ih with ⟨h1, h2⟩ | h
      · exact .inl ⟨by simp [h1], h2⟩
      · exact .inr h
def allAh (fr : Fr) (k z L : Nat) : List Nat → Prop
  | [] => True
  | t :: r => getD' t fr = .ah k z L ∧ allAh fr k z L r
theorem zfC {fr : Fr} {k z L : Nat} : ∀ {ts : List Nat}, allAh fr k z L ts → ∀ t ∈ ts, getD' t fr = .ah k z L
  | [], _, _, h => by cases h
  | _ :: _, h, t, ht => by
    rcases List.mem_cons.1 ht with e | e
    · subst e; exact h.1
    · exact zfC h.2 t e
theorem Rep.freeze {a : Act} {w : World} (ts : List Nat) (k e z L : Nat) (f : Nat → List D) (hk : look k ow = some (.arr e z L f)) (ht : allAh fr k z L ts) (hr : Rep X n (fF fr) (fO ow) a w) : Rep X n (fF (setAll ts (.gs k z L f) fr)) (fO ((k, .row e z L) :: ow)) a w := by
  obtain ⟨S, r, hH, hI, hF, hd, hn, hρ⟩ := hr
  obtain ⟨tv, g1, g2⟩ := hI.obj k _ hk
  let S2 : Cells := fun b o => S b o ∨ (b < w.heap.size ∧ (Loc.row tv L).block = some b ∧ o < L * z)
  have hc : Chg w w S none := ⟨rfl, rfl, rfl, Nat.le_refl _, fun _ _ _ => rfl, fun _ _ _ => rfl⟩
  have hS2 : ∀ b o, S b o → S2 b o := fun _ _ h => .inl h
  refine ⟨S2, r, ?_, ?_, fun u => ?_, hd, hn, hρ⟩
  · refine hH.chg hc (fun b hb => by cases hb) hS2 (fun b o h => ?_)
    rcases h with h | ⟨h1, h2, _⟩
    · exact .inl h
    · exact .inr ⟨hI.low k _ b g1 h2, h1⟩
  · rw [zaA]
    refine hI.put hc hS2 (RhoLe.refl r) k _ (.row tv L) ⟨tv, g1, ?_⟩ g1 (fun _ _ => rfl) (fun b hb => .inr ⟨_, g1, hb⟩) (fun b hb => by cases hb) (fun b o h => ?_)
    · rcases g2 with g2 | ⟨g, cap, cur, rfl, q1, q2, q3, q4, q5, q6, q7⟩
      · exact .inl g2
      · refine .inr ⟨g, cap, cur, rfl, q1, q2, q3, q4, fun o ho h => ?_⟩
        rcases h with h | ⟨_, _, h⟩
        · exact q7 o h
        · omega
    · rcases h with h | ⟨_, h, _⟩
      · exact .inl h
      · exact .inr (.inl h)
  · show Rel _ _ _ (getD' u (setAll ts (.gs k z L f) fr)) _
    rcases zhR (ts := ts) (d := .gs k z L f) (fr := fr) (u := u) with ⟨hu, e1⟩ | e1
    · rw [e1]
      have h1 := hF u
      rw [show fF fr u = .ah k z L from zfC ht u hu] at h1
      generalize a.tmps.getD u undef = v at h1
      cases h1 with
      | ah _ _ _ _ cap ax tv' L' hk0 hL hta hag =>
        rw [hk0] at g1
        cases g1
        refine .gs _ k z L f _ _ _ ?_ hk0 (Nat.le_refl _) hta
        rcases g2 with ⟨rfl, h0⟩ | ⟨g, cap', cur, rfl, q1, q2, q3, q4, q5, q6, q7⟩
        · subst h0
          rcases hta rfl with e1 | ⟨_, a2, e1⟩
          · cases e1
            exact .sl _ _ _ _ _ _ (fun _ _ => undef) (Nat.le_refl _) (by unfold maxLen; omega) (fun i hi => by omega) (fun i j hi => by omega) (fun i j hi => by omega)
          · cases e1
            exact .sl _ _ _ _ _ _ (fun _ _ => undef) (Nat.le_refl _) (by unfold maxLen; omega) (fun i hi => by omega) (fun i j hi => by omega) (fun i j hi => by omega)
        · rcases hta rfl with e1 | ⟨e1, _⟩
          · cases e1
            have hlt : ∀ i j, i < L → j < z → i * z + j < L * z := fun i j hi hj => by
              have : (i + 1) * z ≤ L * z := Nat.mul_le_mul_right z hi
              rw [Nat.add_mul] at this
              omega
            refine .sl _ _ _ _ _ _ (fun i j => cur.getD (i * z + j) undef) q2 q3 q5 (fun i j hi hj => ⟨g, 0, rfl, .inr ⟨(Array.getElem?_eq_some_iff.1 q1).1, rfl, by rw [Nat.zero_add]; exact hlt i j hi hj⟩, ?_⟩) (fun i j hi hj => (q6 i j hi hj).mono hS2 (fun _ _ _ => rfl) noRho (RhoLe.refl _))
            rw [Nat.zero_add, cell_of_row w g _ cur e (0, 0) q1]
            have : L * z ≤ cap * z := Nat.mul_le_mul_right z q2
            have := hlt i j hi hj
            have : i * z + j < cur.size := by omega
            simp [Array.getD_eq_getD_getElem?, this]
          · cases e1
    · rw [e1]
      exact (hF u).mono hS2 (fun _ _ _ => rfl) r (RhoLe.refl r)
theorem T.freeze {c : Code} (ts : List Nat) (k e z L : Nat) (f : Nat → List D) (hk : look k ow = some (.arr e z L f)) (ht : allAh fr k z L ts) (h : T P X n c (setAll ts (.gs k z L f) fr) ((k, .row e z L) :: ow) Q) : T P X n c fr ow Q :=
  fun a w hr => h a w (hr.freeze ts k e z L f hk ht)
theorem CtrO.shut {f : FuncId} {args : List D} {k z L : Nat} {e : TypeId} {g : Nat → List D} (h : CtrO P f args [] (.ah k z L) [(k, .arr e z L g)]) : Ctr P f args (.sl z L g) := by
  intro w S vs hv hgl hn hr
  refine (h ⟨w, S, fun _ => False, noRho, [], []⟩ vs rfl ⟨rfl, rfl, rfl, Nat.le_refl _, fun _ _ _ => rfl, fun _ _ h => h, fun _ _ _ => rfl, fun _ _ h => .inl h, hv, hgl⟩ (zeA _ _ _) hn hr).mono ?_
  rintro e' w' ⟨v, S', r', rfl, h1, h2, h3, _⟩
  obtain ⟨tv, g1, g2⟩ := h3.obj k (.arr e z L g) (by show look k [(k, _)] = _; simp [look])
  cases h1 with
  | ah _ _ _ _ cap ax tv' L' hk0 hL hta hag =>
    rw [hk0] at g1
    cases g1
    let S2 : Cells := fun b o => S' b o ∨ (b < w'.heap.size ∧ (Loc.row tv L).block = some b ∧ o < L * z)
    have hS2 : ∀ b o, S' b o → S2 b o := fun _ _ h => .inl h
    refine ⟨_, S2, rfl, ?_, h2.os, h2.tape, h2.output, h2.size, h2.block, fun b o hb => .inl (h2.sub b o hb), h2.cell, fun b o hb => ?_, fun b o hb => ?_, h2.glob.mono hS2 (fun _ _ _ => rfl)⟩
    · rcases g2 with ⟨rfl, h0⟩ | ⟨gg, cap', cur, rfl, q1, q2, q3, q4, q5, q6, q7⟩
      · subst h0
        rcases hta rfl with e1 | ⟨_, a2, e1⟩
        · cases e1
          exact .sl _ _ _ _ _ _ (fun _ _ => undef) (Nat.le_refl _) (by unfold maxLen; omega) (fun i hi => by omega) (fun i j hi => by omega) (fun i j hi => by omega)
        · cases e1
          exact .sl _ _ _ _ _ _ (fun _ _ => undef) (Nat.le_refl _) (by unfold maxLen; omega) (fun i hi => by omega) (fun i j hi => by omega) (fun i j hi => by omega)
      · rcases hta rfl with e1 | ⟨e1, _⟩
        · cases e1
          have hlt : ∀ i j, i < L → j < z → i * z + j < L * z := fun i j hi hj => by
            have : (i + 1) * z ≤ L * z := Nat.mul_le_mul_right z hi
            rw [Nat.add_mul] at this
            omega
          refine .sl _ _ _ _ _ _ (fun i j => cur.getD (i * z + j) undef) q2 q3 q5 (fun i j hi hj => ⟨gg, 0, rfl, .inr ⟨(Array.getElem?_eq_some_iff.1 q1).1, rfl, by rw [Nat.zero_add]; exact hlt i j hi hj⟩, ?_⟩) (fun i j hi hj => (q6 i j hi hj).mono hS2 (fun _ _ _ => rfl) noRho (RhoLe.refl _))
          rw [Nat.zero_add, cell_of_row w' gg _ cur e (0, 0) q1]
          have : L * z ≤ cap * z := Nat.mul_le_mul_right z q2
          have := hlt i j hi hj
          have : i * z + j < cur.size := by omega
          simp [Array.getD_eq_getD_getElem?, this]
        · cases e1
    · rcases hb with hb | ⟨_, hb, _⟩
      · exact h2.new b o hb
      · rcases h3.low k _ b hk0 hb with h | h
        · exact .inr (.inl h)
        · exact h.elim
    · rcases hb with hb | ⟨hb, _⟩
      · exact h2.valid b o hb
      · exact hb
inductive Frz : Fr → Ow → Fr → Ow → Prop
  | refl (fr : Fr) (ow : Ow) : Frz fr ow fr ow
  | freeze (fr : Fr) (ow : Ow) (fr' : Fr) (ow' : Ow) (ts : List Nat) (k e z L : Nat) (f : Nat → List D) (hk : look k ow = some (.arr e z L f)) (ht : allAh fr k z L ts) (h : Frz (setAll ts (.gs k z L f) fr) ((k, .row e z L) :: ow) fr' ow') : Frz fr ow fr' ow'
  | adopt (fr : Fr) (ow : Ow) (fr' : Fr) (ow' : Ow) (t k e z : Nat) (f : Nat → List D) (ht : getD' t fr = .nilS) (hk : look k ow = none) (h : Frz ((t, .ah k z 0) :: fr) ((k, .arr e z 0 f) :: ow) fr' ow') : Frz fr ow fr' ow'
theorem Rep.frz {a : Act} {w : World} {fr fr' : Fr} {ow ow' : Ow} (h : Frz fr ow fr' ow') : Rep X n (fF fr) (fO ow) a w → Rep X n (fF fr') (fO ow') a w := by
  induction h with
  | refl => exact id
  | freeze fr ow fr' ow' ts k e z L f hk ht h ih => exact fun hr => ih (hr.freeze ts k e z L f hk ht)
  | adopt fr ow fr' ow' t k e z f ht hk h ih => exact fun hr => ih (hr.adoptA t k e z f ht hk)
def resDs (B : Tb) (fr : Fr) (ow : Ow) : List ResultVar → Option (List D)
  | [] => some []
  | .tmp t :: r => match resDs B fr ow r with
    | some ds => fz (getD' t fr).shut fun d => some (d :: ds)
    | none => none
  | .cell a t :: r => match getD' a fr with
    | .pv k off => match look k ow, B.sz t, resDs B fr ow r with
      | some (.var cs), some z, some ds => match z.2 with
        | true => match Nat.beq off 0 && Nat.beq z.1 cs.length with
          | true => fz (.ag (cs.map D.shut)) fun d => some (d :: ds)
          | false => none
        | false => match Nat.blt off cs.length with
          | true => fz (cs.getD off .any).shut fun d => some (d :: ds)
          | false => none
      | _, _, _ => none
    | _ => none
def resD (B : Tb) (fr : Fr) (ow : Ow) (rs : List ResultVar) : Option D :=
  match resDs B fr ow rs with
  | some [d] => some d
  | some ds => some (.tu ds)
  | none => none
theorem zit {S : Cells} {w : World} {r : Rho} {cs : List D} {vs : Array Value} (h : ∀ j, j < cs.length → Rel S w r (cs.getD j .any) (vs.getD j undef)) :
    ∀ j, j < (cs.map D.shut).length → Rel S w r ((cs.map D.shut).getD j .any) (vs.getD j undef) := by
  intro j hj
  have hj' : j < cs.length := by simpa using hj
  have e : (cs.map D.shut).getD j .any = (cs.getD j .any).shut := by simp [List.getD_eq_getElem?_getD, hj']
  rw [e]
  exact (h j hj').shut
def resF (tmps : Array Value) : ResultVar → Sem Value
  | .tmp t => pure (tmps.getD t undef)
  | .cell x t => do loadVar t (← asAddr (tmps.getD x undef))
theorem zbc (fn : Func) (tmps : Array Value) : results fn tmps = (do
    let vs ← fn.results.mapM (resF tmps)
    pure (if h : vs.size = 1 then vs[0] else .tuple vs)) := rfl
theorem zbI {a : Act} {w : World} {S : Cells} {r : Rho} (hI : Inv X w S r (fO ow)) (hF : ∀ t, Rel S w r (fF fr t) (a.tmps.getD t undef)) :
    ∀ {rs : List ResultVar} {ds : List D}, resDs (tb P) fr ow rs = some ds →
      ∃ vs : List Value, (rs.mapM (resF a.tmps)).run P w = .ok vs w ∧ vs.length = ds.length ∧ ∀ j, j < ds.length → Rel S w r (ds.getD j .any) (vs.getD j undef)
  | [], ds, h => by
    cases h
    exact ⟨[], rfl, rfl, fun j hj => by simp at hj⟩
  | .tmp t :: rs, ds, h => by
    simp only [resDs, zbs] at h
    split at h <;> first | (cases h; done) | skip
    rename_i ds' hds
    cases h
    obtain ⟨vs, h1, h2, h3⟩ := zbI hI hF hds
    refine ⟨a.tmps.getD t undef :: vs, ?_, by simp [h2], fun j hj => ?_⟩
    · have h0 : (resF a.tmps (.tmp t)).run P w = .ok (a.tmps.getD t undef) w := rfl
      rw [List.mapM_cons]
      simp only [Sem.run_bind, h0, h1, Result.andThen_ok, Sem.run_pure]
    · cases j with
      | zero => exact (hF t).shut
      | succ j => simpa using h3 j (by simpa using hj)
  | .cell x t :: rs, ds, h => by
    simp only [resDs, zbs] at h
    split at h <;> first | (cases h; done) | skip
    rename_i k off hx
    split at h <;> first | (cases h; done) | skip
    rename_i cs z ds' hk hz hds
    obtain ⟨vs, h1, h2, h3⟩ := zbI hI hF hds
    have hv := hF x
    rw [show fF fr x = .pv k off from hx] at hv
    generalize hav : a.tmps.getD x undef = av at hv
    cases hv with
    | pv _ _ _ b hb =>
      obtain ⟨b', cur, e', g1, g2, g3, g4, g5⟩ := hI.obj k _ hk
      rw [hb] at g1
      cases g1
      have hcell : ∀ j, j < cs.length → w.cell? ⟨b, 0 + j, none⟩ = some (cur.getD j undef) := fun j hj => by
        rw [Nat.zero_add, cell_of_row w b j cur e' (0, 0) g2]
        have : j < cur.size := by omega
        simp [Array.getD_eq_getD_getElem?, this]
      have fin : ∀ (u : Value) (d : D), (Instr.loadAt t (.pointer (some ⟨b, off, none⟩))).run P w = .ok u w → Rel S w r d u → ds = d :: ds' →
          ∃ vs : List Value, ((ResultVar.cell x t :: rs).mapM (resF a.tmps)).run P w = .ok vs w ∧ vs.length = ds.length ∧ ∀ j, j < ds.length → Rel S w r (ds.getD j .any) (vs.getD j undef) := by
        intro u d hu hd he
        subst he
        refine ⟨u :: vs, ?_, by simp [h2], fun j hj => ?_⟩
        · simp only [Instr.loadAt, Instr.sureAddr, Sem.run_bind, Sem.run_pure, Result.andThen_ok] at hu
          have h0 : (resF a.tmps (.cell x t)).run P w = .ok u w := by
            simp only [resF, hav, asAddr, Sem.run_bind, Sem.run_pure, Result.andThen_ok]
            exact hu
          rw [List.mapM_cons]
          simp only [Sem.run_bind, h0, h1, Result.andThen_ok, Sem.run_pure]
        · cases j with
          | zero => simpa using hd
          | succ j => simpa using h3 j (by simpa using hj)
      split at h
      · rename_i hz2
        split at h <;> first | (cases h; done) | skip
        rename_i hb2
        cases h
        simp only [Bool.and_eq_true] at hb2
        have e0 := Nat.eq_of_beq_eq_true hb2.1
        have e1 := Nat.eq_of_beq_eq_true hb2.2
        subst e0
        obtain ⟨u, q1, q2⟩ := zaR (P := P) (o := 0) (b := b) (off := 0) hz (by simp only [partP, hz2]; omega) hcell (fun j hj => (g4 j hj).1)
        have e3 : partD z cs 0 = .ag cs := by
          simp only [partD, hz2]
          rw [e1]
          simp
        rw [e3] at q2
        refine fin u _ (by simpa using q1) ?_ rfl
        cases q2 with
        | ag _ _ us hn hus => exact .ag _ _ us (by simpa using hn) (zit hus)
      · rename_i hz2
        split at h <;> first | (cases h; done) | skip
        rename_i hb2
        cases h
        have hlt : off < cs.length := by simpa using hb2
        obtain ⟨u, q1, q2⟩ := zaR (P := P) (o := 0) (b := b) (off := off) hz (by simp only [partP, hz2]; omega) hcell (fun j hj => (g4 j hj).1)
        have e3 : partD z cs off = cs.getD off .any := by simp only [partD, hz2]
        rw [e3] at q2
        exact fin u _ (by simpa using q1) q2.shut rfl
theorem zdW {fn : Func} {a : Act} {w : World} {S : Cells} {r : Rho} {d : D} {rs : List ResultVar} (hrs : fn.results = ⟨rs⟩) (hI : Inv X w S r (fO ow)) (hF : ∀ t, Rel S w r (fF fr t) (a.tmps.getD t undef)) (h : resD (tb P) fr ow rs = some d) :
    ∃ v, (results fn a.tmps).run P w = .ok v w ∧ Rel S w r d v := by
  unfold resD at h
  cases hds : resDs (tb P) fr ow rs with
  | none => rw [hds] at h; cases h
  | some ds =>
    rw [hds] at h
    obtain ⟨vs, h1, h2, h3⟩ := zbI (P := P) hI hF hds
    have hm : (fn.results.mapM (resF a.tmps)).run P w = .ok vs.toArray w := by
      rw [hrs, Array.mapM_eq_mapM_toList]
      simp only [Sem.run_map, h1, Result.andThen_ok]
    match ds, h, h2, h3 with
    | [e], h, h2, h3 =>
      cases h
      obtain ⟨v, rfl⟩ : ∃ v, vs = [v] := by
        match vs, h2 with
        | [v], _ => exact ⟨v, rfl⟩
      refine ⟨v, ?_, by simpa using h3 0 (by simp)⟩
      simp only [zbc, Sem.run_bind, hm, Result.andThen_ok, Sem.run_pure]
      rfl
    | [], h, h2, h3 =>
      cases h
      have : vs = [] := List.eq_nil_of_length_eq_zero (by simpa using h2)
      subst this
      exact ⟨.tuple #[], by simp only [zbc, Sem.run_bind, hm, Result.andThen_ok, Sem.run_pure]; rfl, .tu _ _ _ rfl (fun j hj => by simp at hj)⟩
    | e1 :: e2 :: es, h, h2, h3 =>
      cases h
      refine ⟨.tuple vs.toArray, ?_, .tu _ _ _ (by simpa using h2) (fun j hj => ?_)⟩
      · have hne : vs.length ≠ 1 := by rw [h2]; simp
        simp only [zbc, Sem.run_bind, hm, Result.andThen_ok, Sem.run_pure]
        rw [dif_neg (by simpa using hne)]
      · rw [zbZ]
        exact h3 j hj
def slots : Nat → List D → Fr
  | _, [] => []
  | i, d :: r => (i, d) :: slots (i + 1) r
theorem zaZ : ∀ {ds : List D} {i t : Nat}, getD' t (slots i ds) = if i ≤ t then ds.getD (t - i) .any else .any
  | [], i, t => by simp [slots, getD']
  | d :: r, i, t => by
    simp only [slots, getD']
    cases hb : Nat.beq i t with
    | true =>
      have := Nat.eq_of_beq_eq_true hb
      subst this
      simp
    | false =>
      have hne : i ≠ t := fun e => by subst e; rw [Nat.beq_refl] at hb; cases hb
      rw [zaZ]
      by_cases h : i + 1 ≤ t
      · rw [if_pos h, if_pos (by omega)]
        have : t - i = (t - (i + 1)) + 1 := by omega
        rw [this]
        simp
      · rw [if_neg h, if_neg (by omega)]
theorem CtrO.of_T {f : FuncId} {fn : Func} {c : Code} {N : Nat} {rs : List ResultVar} {args : List D} {d : D} (hf : P.funcs[f]? = some fn) (hb : fn.body = some c) (hN : fn.ntmps = N) (hrs : fn.results = ⟨rs⟩) (hlen : args.length ≤ N)
    (h : ∀ X : Ctx, Lent X → X.ids = ow.map (·.1) → T P X N c (slots 0 args) ow (fun e fr2 ow2 => (e = .ret ∨ e = .normal) ∧ ∃ d2, resD (tb P) fr2 ow2 rs = some d2 ∧ Weak d2 d ∧ d.okIn (ow'.map (·.1)) = true ∧ Le X fr2 ow2 [] ow')) :
    CtrO P f args ow d ow' := by
  refine CtrO.of0 fun X vs hdf0 hids hH hI hsz hrel => ?_
  have hL : Lent X := fun k hk => by
    rw [hids]
    cases hmem : look k ow with
    | none => exact absurd (hI.dom k hmem) hk
    | some o =>
      by_cases hm : k ∈ ow.map (·.1)
      · exact hm
      · rw [zaK hm] at hmem; cases hmem
  refine calls_of_wp hf hb ?_
  have hrep : Rep X N (fF (slots 0 args)) (fO ow) { tmps := vs ++ Array.replicate (fn.ntmps - vs.size) undef, defers := [] } X.w0 := by
    refine ⟨X.S0, X.r0, hH, hI, fun t => ?_, hdf0.symm, by simp; omega, RhoLe.refl _⟩
    show Rel _ _ _ (getD' t (slots 0 args)) _
    rw [zaZ]
    simp only [Nat.zero_le, if_true, Nat.sub_zero]
    by_cases ht : t < args.length
    · have := hrel t ht
      rw [Array.getD_eq_getD_getElem?, Array.getElem?_append_left (by omega), ← Array.getD_eq_getD_getElem?]
      exact this
    · rw [List.getD_eq_getElem?_getD, List.getElem?_eq_none (by omega)]
      exact .any ..
  refine wp_mono (h X hL hids _ _ hrep).wide fun e a w ⟨fr2, ow2, ⟨he, d2, h1, h2, h3, h4⟩, hrep2⟩ => ?_
  obtain ⟨S, r, hH2, hI2, hF2, hd2, _, hρ2⟩ := hrep2
  obtain ⟨v, hv, hvr⟩ := zdW (P := P) hrs hI2 hF2 h1
  have hok := h4.ok
  simp only [okAll, Bool.and_eq_true] at hok
  have hfin : ∃ v' S' r', Ending.returned v = .returned v' ∧ Rel S' w r' d v' ∧ Hist X w S' ∧ Inv X w S' r' (fO ow') ∧ RhoLe X.r0 r' := by
    refine ⟨v, S, keepR r (ow'.map (·.1)), rfl, ?_, hH2, hI2.keep h4.ow hok.2, fun k l hk => ?_⟩
    · exact (hvr.weak h2).okIn h3
    · obtain ⟨l', g1, g2⟩ := hρ2 k l hk
      have : k ∈ ow'.map (·.1) := h4.ids k (hL k (by rw [hk]; simp))
      exact ⟨l', by simp only [keepR]; rw [if_pos this]; exact g1, g2⟩
  rcases he with rfl | rfl
  · exact ⟨hd2.trans hdf0, v, hv, hfin⟩
  · exact ⟨hd2.trans hdf0, v, hv, hfin⟩
end
end Go.Proofs.YtkkaamhocpmhkaaGreatDoor.Flow
