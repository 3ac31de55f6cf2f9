/- The texts RFlowPb, RFlowPc, RD4, RD5, one behind the other. -/
import Derived.Test.YtbegohehjkjnmaaDoorMR12
import Derived.Test.YtbegohehjkjnmaaDoorMR13
import Derived.Lib.Bytealg
namespace Go.Proofs.YtbegohehjkjnmaaDoor.Flow

section
variable {P : Program} {X : Ctx} {n : Nat}

theorem runF_app1 {l1 l2 : List Oper} {es1 es2 : List Eff} {L : Nat → Bool} {F : Nat → D} (h : es1.length = l1.length) : ∀ {k : Nat}, k ≤ l1.length → runF (l1 ++ l2) (es1 ++ es2) L F k = runF l1 es1 L F k
  | 0, _ => rfl
  | k + 1, hk => by
    rw [runF, runF, runF_app1 h (by omega), List.getElem?_append_left (show k < l1.length by omega), List.getElem?_append_left (show k < es1.length by omega)]
theorem runO_app1 {l1 l2 : List Oper} {es1 es2 : List Eff} {L : Nat → Bool} {O : Nat → Option Own} (h : es1.length = l1.length) : ∀ {k : Nat}, k ≤ l1.length → runO (l1 ++ l2) (es1 ++ es2) L O k = runO l1 es1 L O k
  | 0, _ => rfl
  | k + 1, hk => by
    rw [runO, runO, runO_app1 h (by omega), List.getElem?_append_left (show k < l1.length by omega), List.getElem?_append_left (show k < es1.length by omega)]
theorem runF_app2 {l1 l2 : List Oper} {es1 es2 : List Eff} {F : Nat → D} (h : es1.length = l1.length) : ∀ {j : Nat}, runF (l1 ++ l2) (es1 ++ es2) (fun _ => true) F (l1.length + j) = runF l2 es2 (fun _ => true) (runF l1 es1 (fun _ => true) F l1.length) j
  | 0 => by rw [Nat.add_zero, runF_app1 h (Nat.le_refl _)]; rfl
  | j + 1 => by
    rw [← Nat.add_assoc, runF, runF, runF_app2 h, List.getElem?_append_right (Nat.le_add_right _ _), List.getElem?_append_right (by omega), h, Nat.add_sub_cancel_left]
theorem runO_app2 {l1 l2 : List Oper} {es1 es2 : List Eff} {O : Nat → Option Own} (h : es1.length = l1.length) : ∀ {j : Nat}, runO (l1 ++ l2) (es1 ++ es2) (fun _ => true) O (l1.length + j) = runO l2 es2 (fun _ => true) (runO l1 es1 (fun _ => true) O l1.length) j
  | 0 => by rw [Nat.add_zero, runO_app1 h (Nat.le_refl _)]; rfl
  | j + 1 => by
    rw [← Nat.add_assoc, runO, runO, runO_app2 h, List.getElem?_append_right (Nat.le_add_right _ _), List.getElem?_append_right (by omega), h, Nat.add_sub_cancel_left]

theorem wpAny_of_chP (rd : Option Nat) {ops : Array Oper} {Q : Exit → Act → World → Prop} {F : Nat → D} {O : Nat → Option Own} {es : List Eff} {p : Nat} {op : Oper} {ep : Eff} {ch : List PanicEntry} (hlen0 : es.length = ops.toList.length)
    (hat : ∀ k o e, k ≠ p → ops.toList[k]? = some o → es[k]? = some e → LDoes P X n ops.toList o (runF ops.toList es (fun _ => true) F k) (runO ops.toList es (fun _ => true) O k) e)
    (hop : ops.toList[p]? = some op) (hep : es[p]? = some ep) (hg : op.guard = none)
    (hpan : ∀ F' O', (∀ t ∈ seesOf ops.toList op, F' t = runF ops.toList es (fun _ => true) F p t) → (∀ k ∈ ep.rd, O' k = runO ops.toList es (fun _ => true) O p k) → PanAt P X n op F' O' ch ep.wr)
    (hok : flowOk ops.toList (es.map fun e => (e.rd, e.wr.map (·.1))) = true) (hwr : ∀ k e, k ≠ p → es[k]? = some e → e.wr ≠ [] → Anc ops.toList k p)
    (hQ : ∀ a w F', Rep X n F' (updO O ep.wr) a w → Q (.panic ch) a w) :
    ∀ (fuel : Nat) (listed : Array Bool) (a : Act) (w : World), listed.size = ops.size → listed.getD p true = false → Closed ops listed → ((List.range ops.size).countP fun i => !listed.getD i true) ≤ fuel →
      Rep X n (runF ops.toList es (fun i => listed.getD i true) F ops.size) (runO ops.toList es (fun i => listed.getD i true) O ops.size) a w → wpAnyIn (fR rd) 0 P .any ops Q fuel listed a w := by
  have hN : ops.toList.length = ops.size := Array.length_toList
  have hlen := hlen0
  rw [hN] at hlen
  simp only [flowOk, Bool.and_eq_true] at hok
  obtain ⟨hall, hback⟩ := hok
  have hanc := ancs_spec (ops := ops.toList) ops.toList [] (fun j => by simp) (fun k j hk => by simp at hk)
  -- two operations that are not ordered do not clash
  have hcl : ∀ i k oi ok ei ek, ops.toList[i]? = some oi → ops.toList[k]? = some ok → es[i]? = some ei → es[k]? = some ek → i < k → ¬ Anc ops.toList k i → clash (footAt ops.toList oi ei) (footAt ops.toList ok ek) = false := by
    intro i k oi ok ei ek h1 h2 h3 h4 hik hna
    have := allOk_spec hall rfl i k _ _ (by simpa using feet_at (all := ops.toList) h1 h3) (by simpa using feet_at (all := ops.toList) h2 h4) hik (Nat.zero_le _)
    rcases this with h | h
    · exact absurd (hanc k i h) hna
    · exact h
  have hes : ∀ i o, ops[i]? = some o → ∃ e, es[i]? = some e := fun i o ho => by
    have : i < ops.size := (Array.getElem?_eq_some_iff.1 ho).1
    exact ⟨_, List.getElem?_eq_getElem (by omega)⟩
  -- nothing ready: all listed
  have hdone : ∀ listed : Array Bool, listed.size = ops.size → Region.ready .any ops listed = [] → ∀ i, listed.getD i true = true := by
    intro listed hz hr i
    induction i using Nat.strongRecOn with
    | _ i ih =>
      cases hL : listed.getD i true with
      | true => rfl
      | false =>
        exfalso
        have hi : i < ops.size := by
          rcases Nat.lt_or_ge i listed.size with h | h
          · omega
          · rw [Array.getD_eq_getD_getElem?, Array.getElem?_eq_none h] at hL
            cases hL
        have hmem : i ∈ Region.ready .any ops listed := by
          refine mem_ready.2 ⟨hL, ops[i], by simp [hi], fun e he hb => ?_⟩
          have hlt := backOk_spec hback i ops[i] (by simp [hi]) e (by simpa using he) hb
          have := ih e.on (by omega)
          rwa [getD_bools (b := true) (by omega)]
        rw [hr] at hmem
        cases hmem
  have hno : ∀ listed : Array Bool, listed.size = ops.size → listed.getD p true = false → Region.ready .any ops listed = [] → False := fun listed hz hlp hr => by
    rw [hdone listed hz hr p] at hlp
    cases hlp
  intro fuel
  induction fuel with
  | zero =>
    intro listed a w hz hlp hc hn hrep
    have hr : Region.ready .any ops listed = [] := by
      apply List.eq_nil_iff_forall_not_mem.2
      intro i hi
      obtain ⟨h1, o, ho, _⟩ := mem_ready.1 hi
      have hlt : i < ops.size := (Array.getElem?_eq_some_iff.1 ho).1
      have : 0 < (List.range ops.size).countP fun i => !listed.getD i true := List.countP_pos_iff.2 ⟨i, by simpa using hlt, by simp [h1]⟩
      omega
    exact (hno listed hz hlp hr).elim
  | succ fuel ih =>
    intro listed a w hz hlp hc hn hrep
    refine ⟨fun hr => (hno listed hz hlp hr).elim, fun j hj => ?_⟩
    obtain ⟨hjl, o, ho, hpre⟩ := mem_ready.1 hj
    have hjn : j < ops.size := (Array.getElem?_eq_some_iff.1 ho).1
    have hol : ops.toList[j]? = some o := by simpa using ho
    obtain ⟨e, he⟩ := hes j o ho
    -- whatever surely comes ahead of j has come up
    have hancj : ∀ i, Anc ops.toList j i → listed.getD i true = true := by
      intro i hi
      have hsize : ∀ k, listed.getD k false = true → listed.getD k true = true := fun k hk => by
        rcases Nat.lt_or_ge k listed.size with h | h
        · rw [getD_bools (b := false) h]; exact hk
        · simp [Array.getD_eq_getD_getElem?, Array.getElem?_eq_none h]
      cases hi with
      | one _ _ o' e' ho' he' hb hj' =>
        rw [hol] at ho'
        cases ho'
        subst hj'
        exact hsize _ (hpre e' (by simpa using he') hb)
      | more _ _ o' e' ho' he' hb t =>
        rw [hol] at ho'
        cases ho'
        exact hc.anc hz t (hsize _ (hpre e' (by simpa using he') hb))
    -- nothing that has come up and stands behind j in the text clashes with it; nothing that has not come up and stands ahead does
    have hafter : ∀ i oi ei, j ≤ i → ops.toList[i]? = some oi → es[i]? = some ei → listed.getD i true = true → clash (footAt ops.toList oi ei) (footAt ops.toList o e) = false := by
      intro i oi ei hji hoi hei hL
      have hne : j ≠ i := fun h => by subst h; rw [hjl] at hL; cases hL
      refine clash_comm _ _ (hcl j i o oi e ei hol hoi he hei (by omega) fun ha => ?_)
      have := hc.anc hz ha hL
      rw [hjl] at this
      cases this
    have hbefore : ∀ i oi ei, i < j → ops.toList[i]? = some oi → es[i]? = some ei → listed.getD i true = false → clash (footAt ops.toList oi ei) (footAt ops.toList o e) = false := by
      intro i oi ei hij hoi hei hL
      refine hcl i j oi o ei e hoi hol hei he hij fun ha => ?_
      have := hancj i ha
      rw [hL] at this
      cases this
    have hmj : ops.size = j + (ops.size - j) := by omega
    have hF : ∀ t, t ∈ seesOf ops.toList o ∨ t ∈ o.dst.toList → runF ops.toList es (fun i => listed.getD i true) F ops.size t = runF ops.toList es (fun _ => true) F j t := by
      intro t ht
      rw [hmj, runF_stop (fun i oi hji hoi hL => ?_), runF_agree (fun i oi hij hoi hne => ?_)]
      · have hL : listed.getD i true = false := by
          cases h : listed.getD i true with
          | false => rfl
          | true => exact absurd h hne
        obtain ⟨ei, hei⟩ := hes i oi (by simpa using hoi)
        have := hbefore i oi ei hij hoi hei hL
        simp only [clash, footAt, Bool.or_eq_false_iff] at this
        intro hmem
        rcases ht with ht | ht
        · exact meets_false this.1.1.1 hmem ht
        · exact meets_false this.1.1.2 hmem ht
      · obtain ⟨ei, hei⟩ := hes i oi (by simpa using hoi)
        have := hafter i oi ei hji hoi hei hL
        simp only [clash, footAt, Bool.or_eq_false_iff] at this
        intro hmem
        rcases ht with ht | ht
        · exact meets_false this.1.1.1 hmem ht
        · exact meets_false this.1.1.2 hmem ht
    have hO : ∀ t, t ∈ e.rd ∨ t ∈ e.wr.map (·.1) → runO ops.toList es (fun i => listed.getD i true) O ops.size t = runO ops.toList es (fun _ => true) O j t := by
      intro t ht
      have hoi : ∀ i ei, es[i]? = some ei → ∃ oi, ops.toList[i]? = some oi := fun i ei hei => by
        have : i < es.length := (List.getElem?_eq_some_iff.1 hei).1
        exact ⟨_, (Array.getElem?_toList).trans (Array.getElem?_eq_getElem (by omega))⟩
      rw [hmj, runO_stop (fun i ei hji hei hL => ?_), runO_agree (fun i ei hij hei hne => ?_)]
      · have hL : listed.getD i true = false := by
          cases h : listed.getD i true with
          | false => rfl
          | true => exact absurd h hne
        obtain ⟨oi, hoi⟩ := hoi i ei hei
        have := hbefore i oi ei hij hoi hei hL
        simp only [clash, footAt, Bool.or_eq_false_iff] at this
        intro hmem
        rcases ht with ht | ht
        · exact meets_false this.2.1.1 hmem ht
        · exact meets_false this.2.1.2 hmem ht
      · obtain ⟨oi, hoi⟩ := hoi i ei hei
        have := hafter i oi ei hji hoi hei hL
        simp only [clash, footAt, Bool.or_eq_false_iff] at this
        intro hmem
        rcases ht with ht | ht
        · exact meets_false this.2.1.1 hmem ht
        · exact meets_false this.2.1.2 hmem ht
    by_cases hjp : j = p
    · subst hjp
      rw [hop] at hol
      cases hol
      rw [hep] at he
      cases he
      have hOeq : ∀ m, runO ops.toList es (fun i => listed.getD i true) O m = O := by
        intro m
        induction m with
        | zero => rfl
        | succ m ihm =>
          rw [runO]
          split
          · rename_i hL
            split
            · rename_i o2 e2 ho2 he2
              have hm : m ≠ j := fun q => by
                subst q
                rw [hjl] at hL
                cases hL
              have hw0 : e2.wr = [] := by
                cases hw : e2.wr with
                | nil => rfl
                | cons x y =>
                  have := hc.anc hz (hwr m e2 hm he2 (by rw [hw]; simp)) hL
                  rw [hjl] at this
                  cases this
              rw [hw0]
              exact ihm
            · exact ihm
          · exact ihm
      unfold wpOpIn
      simp only [ho, Region.wanted, hg, if_true]
      refine OW.in rd (hpan _ _ (fun t ht => hF t (.inl ht)) (fun k hk => hO k (.inl hk)) a w _ _ hrep fun w' hr2 => hQ a w' (runF ops.toList es (fun i => listed.getD i true) F ops.size) ?_)
      rw [hOeq] at hr2
      exact hr2
    have hLd := hat j o e hjp hol he
    have hdoes := hLd _ _ (fun t ht => hF t (.inl ht)) (fun k hk => hO k (.inl hk))
    refine wpOp_of_does ho hdoes hrep (fun a' w' hrep' => ?_) rd
    refine ih _ a' w' (by rw [Array.size_setIfInBounds]; exact hz) (by rw [getD_set_ne true hjp]; exact hlp) ?_ ?_ ?_
    · intro i oi hoi hL e' he' hb
      by_cases hij : j = i
      · subst hij
        rw [ho] at hoi
        cases hoi
        exact getD_set_true (hpre e' he' hb)
      · rw [getD_set_ne true hij] at hL
        exact getD_set_true (hc i oi hoi hL e' he' hb)
    · have hlt : ((List.range ops.size).countP fun i => !(listed.setIfInBounds j true).getD i true) < ((List.range ops.size).countP fun i => !listed.getD i true) := by
        refine countP_lt (j := j) (fun i hi => ?_) (by simp [hjl]) ?_ (by simpa using hjn)
        · by_cases hij : j = i
          · subst hij; simp [hjl]
          · rwa [getD_set_ne true hij] at hi
        · simp [Array.getD_eq_getD_getElem?, show j < listed.size by omega]
      omega
    · have hset : ∀ i, i ≠ j → (listed.setIfInBounds j true).getD i true = listed.getD i true := fun i hi => getD_set_ne true (Ne.symm hi)
      have hsetj : (listed.setIfInBounds j true).getD j true = true := by
        simp [Array.getD_eq_getD_getElem?, show j < listed.size by omega]
      have hmj1 : ops.size = j + 1 + (ops.size - (j + 1)) := by omega
      have eF : runF ops.toList es (fun i => (listed.setIfInBounds j true).getD i true) F ops.size = updF (runF ops.toList es (fun i => listed.getD i true) F ops.size) o.dst e.d := by
        funext t
        by_cases ht : t ∈ o.dst.toList
        · rw [hmj1, runF_stop (fun i oi hji hoi hL => ?_)]
          · rw [← hmj1]
            simp only [runF, hsetj, if_true, hol, he]
            exact updF_same (.inl ht)
          · simp only [hset i (by omega)] at hL
            obtain ⟨ei, hei⟩ := hes i oi (by simpa using hoi)
            have := hafter i oi ei (by omega) hoi hei hL
            simp only [clash, footAt, Bool.or_eq_false_iff] at this
            exact fun hmem => meets_false this.1.1.2 hmem ht
        · rw [updF_keep ht]
          refine runF_agree fun i oi hi hoi hne => ?_
          by_cases hij : i = j
          · subst hij
            rw [hol] at hoi
            cases hoi
            exact ht
          · exact absurd (hset i hij) hne
      have eO : runO ops.toList es (fun i => (listed.setIfInBounds j true).getD i true) O ops.size = updO (runO ops.toList es (fun i => listed.getD i true) O ops.size) e.wr := by
        funext t
        by_cases ht : t ∈ e.wr.map (·.1)
        · rw [hmj1, runO_stop (fun i ei hji hei hL => ?_)]
          · rw [← hmj1]
            simp only [runO, hsetj, if_true, hol, he]
            exact updO_same (.inl ht)
          · simp only [hset i (by omega)] at hL
            have hlt : i < es.length := (List.getElem?_eq_some_iff.1 hei).1
            have hoi : ops.toList[i]? = some (ops[i]'(by omega)) := by simp [show i < ops.size by omega]
            have := hafter i _ ei (by omega) hoi hei hL
            simp only [clash, footAt, Bool.or_eq_false_iff] at this
            exact fun hmem => meets_false this.2.1.2 hmem ht
        · rw [updO_keep ht]
          refine runO_agree fun i ei hi hei hne => ?_
          by_cases hij : i = j
          · subst hij
            rw [he] at hei
            cases hei
            exact ht
          · exact absurd (hset i hij) hne
      rw [eF, eO]
      exact hrep'

def okPan (p : Nat) (ops : List Oper) (tr : List (List Nat × List Nat)) : Bool := (List.range ops.length).all fun k => Nat.beq k p || (tr.getD k ([], [])).2.isEmpty || ((ancs ops []).getD k 0).testBit p

def splitOp3 : Nat → List Oper → (List Oper → Oper → List Oper → Prop) → Prop
  | 0, o :: r, K => K [] o r
  | k + 1, a :: r, K => splitOp3 k r fun pre o post => K (a :: pre) o post
  | _, [], _ => False
theorem splitOp3_spec : ∀ {k : Nat} {ops : List Oper} {K : List Oper → Oper → List Oper → Prop}, splitOp3 k ops K → ∃ pre o post, ops = pre ++ o :: post ∧ pre.length = k ∧ K pre o post
  | 0, o :: r, _, h => ⟨[], o, r, rfl, rfl, h⟩
  | k + 1, a :: r, _, h => by
    obtain ⟨pre, o, post, h1, h2, h3⟩ := splitOp3_spec (k := k) (ops := r) h
    exact ⟨a :: pre, o, post, by rw [h1]; rfl, by simp [h2], h3⟩
  | 0, [], _, h => h.elim
  | k + 1, [], _, h => h.elim

variable {fr : Fr} {ow : Ow} {Q : Exit → Fr → Ow → Prop}

def PanDraw (P : Program) (X : Ctx) (n : Nat) (Q : Exit → Fr → Ow → Prop) (all : List Oper) (p : Nat) (ow0 : Ow) (o : Oper) (post : List Oper) (fr : Fr) (ow : Ow) (tr : List (List Nat × List Nat)) : Prop :=
  o.guard = none ∧ ∃ (ch : List PanicEntry) (e : Eff) (fr2 : Fr) (ow2 : Ow), (∀ F' O', (∀ x ∈ o.op.operands.toList, evF F' x = evF (fF fr) x) → (∀ k ∈ e.rd, O' k = fO ow k) → PanAt P X n o F' O' ch e.wr) ∧ fF fr2 = updF (fF fr) o.dst e.d ∧ fO ow2 = updO (fO ow) e.wr ∧
    CT P X n all post fr2 ow2 (tr ++ [(e.rd, e.wr.map (·.1))]) fun _ _ tr => flowOk all tr = true ∧ okPan p all tr = true ∧ ∃ ow3, fO ow3 = updO (fO ow0) e.wr ∧ Q (.panic ch) [] ow3

theorem T.drawP {id : Nat} {ops : List Oper} (p : Nat) (hm : P.follows .mixedOrders = true) (h : splitOp3 p ops fun pre o post => CT P X n ops pre fr ow [] fun fr1 ow1 tr1 => PanDraw P X n Q ops p ow o post fr1 ow1 tr1) : T P X n (.region id ⟨ops⟩ true) fr ow Q := fun a w hr rd => by
  obtain ⟨pre, o, post, hs, hpl, es1, fr1, ow1, hc1, hg, ch, e, fr2, ow2, hp, hF2, hO2, es2, fr3, ow3', hc2, hok, hokp, ow3, hO3, hq⟩ := splitOp3_spec h
  obtain ⟨hat1, hF1, hO1⟩ := hc1.at
  obtain ⟨hat2, _, _⟩ := hc2.at
  have hl1 := hc1.len
  have hl2 := hc2.len
  have htr : [] ++ es1.map (fun e => (e.rd, e.wr.map (·.1))) ++ [(e.rd, e.wr.map (·.1))] ++ es2.map (fun e => (e.rd, e.wr.map (·.1))) = (es1 ++ e :: es2).map fun e => (e.rd, e.wr.map (·.1)) := by simp
  rw [htr] at hok hokp
  have hlen : (es1 ++ e :: es2).length = ops.length := by
    rw [hs]
    simp [hl1, hl2]
  have hrunF : ∀ j, runF ops (es1 ++ e :: es2) (fun _ => true) (fF fr) (p + 1 + j) = runF post es2 (fun _ => true) (fF fr2) j := fun j => by
    have e1 : pre ++ o :: post = (pre ++ [o]) ++ post := by simp
    have e2 : es1 ++ e :: es2 = (es1 ++ [e]) ++ es2 := by simp
    have e3 : p + 1 = (pre ++ [o]).length := by simp [hpl]
    rw [hs, e1, e2, e3, runF_app2 (by simp [hl1])]
    congr 1
    have e4 : (pre ++ [o]).length = pre.length + 1 := by simp
    rw [e4, runF_app2 hl1, hF1, hF2]
    rfl
  have hrunO : ∀ j, runO ops (es1 ++ e :: es2) (fun _ => true) (fO ow) (p + 1 + j) = runO post es2 (fun _ => true) (fO ow2) j := fun j => by
    have e1 : pre ++ o :: post = (pre ++ [o]) ++ post := by simp
    have e2 : es1 ++ e :: es2 = (es1 ++ [e]) ++ es2 := by simp
    have e3 : p + 1 = (pre ++ [o]).length := by simp [hpl]
    rw [hs, e1, e2, e3, runO_app2 (by simp [hl1])]
    congr 1
    have e4 : (pre ++ [o]).length = pre.length + 1 := by simp
    rw [e4, runO_app2 hl1, hO1, hO2]
    rfl
  have hFp : runF ops (es1 ++ e :: es2) (fun _ => true) (fF fr) p = fF fr1 := by
    rw [hs, ← hpl, runF_app1 hl1 (Nat.le_refl _), hF1]
  have hOp : runO ops (es1 ++ e :: es2) (fun _ => true) (fO ow) p = fO ow1 := by
    rw [hs, ← hpl, runO_app1 hl1 (Nat.le_refl _), hO1]
  have hanc := ancs_spec (ops := ops) ops [] (fun j => by simp) (fun k j hk => by simp at hk)
  have hop : ops[p]? = some o := by rw [hs, ← hpl]; simp
  have hep : (es1 ++ e :: es2)[p]? = some e := by rw [← hpl, ← hl1]; simp
  refine wpIn_region_any hm ?_
  have hnone : (fun i => (Array.replicate (⟨ops⟩ : Array Oper).size false).getD i true) = fun i => !decide (i < (⟨ops⟩ : Array Oper).size) := by
    funext i
    by_cases hi : i < ops.length <;> simp [Array.getD_eq_getD_getElem?, hi]
  have hsz : (⟨ops⟩ : Array Oper).size = ops.length := rfl
  have e1 : ∀ k, k ≤ (⟨ops⟩ : Array Oper).size → runF ops (es1 ++ e :: es2) (fun i => (Array.replicate (⟨ops⟩ : Array Oper).size false).getD i true) (fF fr) k = fF fr := by
    intro k hk
    induction k with
    | zero => rfl
    | succ k ih =>
      have hk' : ¬ ((Array.replicate (⟨ops⟩ : Array Oper).size false).getD k true = true) := by
        have hkk : (Array.replicate (⟨ops⟩ : Array Oper).size false).getD k true = !decide (k < (⟨ops⟩ : Array Oper).size) := congrFun hnone k
        rw [hkk]
        simp only [Bool.not_eq_true', decide_eq_false_iff_not]
        omega
      rw [runF, if_neg hk']
      exact ih (by omega)
  have e2 : ∀ k, k ≤ (⟨ops⟩ : Array Oper).size → runO ops (es1 ++ e :: es2) (fun i => (Array.replicate (⟨ops⟩ : Array Oper).size false).getD i true) (fO ow) k = fO ow := by
    intro k hk
    induction k with
    | zero => rfl
    | succ k ih =>
      have hk' : ¬ ((Array.replicate (⟨ops⟩ : Array Oper).size false).getD k true = true) := by
        have hkk : (Array.replicate (⟨ops⟩ : Array Oper).size false).getD k true = !decide (k < (⟨ops⟩ : Array Oper).size) := congrFun hnone k
        rw [hkk]
        simp only [Bool.not_eq_true', decide_eq_false_iff_not]
        omega
      rw [runO, if_neg hk']
      exact ih (by omega)
  have hplt : p < ops.length := (List.getElem?_eq_some_iff.1 hop).1
  refine wpAny_of_chP rd (P := P) (X := X) (n := n) (ops := ⟨ops⟩) (F := fF fr) (O := fO ow) (es := es1 ++ e :: es2) (p := p) (op := o) (ep := e) (ch := ch) hlen (fun k o' e' hkp ho' he' => ?_) hop hep hg (fun F' O' h1 h2 => hp F' O' (evF_agree (all := ops) fun t ht => ?_) fun k hk => ?_) hok
    (fun k e' hkp he' hw => ?_) (fun a w F' hrep => ⟨[], ow3, hq, ?_⟩) (⟨ops⟩ : Array Oper).size _ a _ (by simp) ?_ (fun i o' hi hL => ?_) (Nat.le_trans List.countP_le_length (by simp)) ?_
  · have ho' : ops[k]? = some o' := ho'
    rcases Nat.lt_or_ge k p with hlt | hge
    · have := hat1 k o' e' (by rw [hs, List.getElem?_append_left (by omega)] at ho'; exact ho') (by rw [List.getElem?_append_left (by omega)] at he'; exact he')
      rw [show runF (⟨ops⟩ : Array Oper).toList (es1 ++ e :: es2) (fun _ => true) (fF fr) k = runF pre es1 (fun _ => true) (fF fr) k by show runF ops _ _ _ _ = _; rw [hs, runF_app1 hl1 (by omega)],
        show runO (⟨ops⟩ : Array Oper).toList (es1 ++ e :: es2) (fun _ => true) (fO ow) k = runO pre es1 (fun _ => true) (fO ow) k by show runO ops _ _ _ _ = _; rw [hs, runO_app1 hl1 (by omega)]]
      exact this
    · obtain ⟨j, rfl⟩ : ∃ j, k = p + 1 + j := ⟨k - (p + 1), by omega⟩
      have := hat2 j o' e' (by
        rw [hs, List.getElem?_append_right (by omega), show p + 1 + j - pre.length = j + 1 by omega] at ho'
        simpa using ho') (by
        rw [List.getElem?_append_right (by omega), show p + 1 + j - es1.length = j + 1 by omega] at he'
        simpa using he')
      rw [show runF (⟨ops⟩ : Array Oper).toList (es1 ++ e :: es2) (fun _ => true) (fF fr) (p + 1 + j) = _ from hrunF j, show runO (⟨ops⟩ : Array Oper).toList (es1 ++ e :: es2) (fun _ => true) (fO ow) (p + 1 + j) = _ from hrunO j]
      exact this
  · have := h1 t ht
    rwa [show runF (⟨ops⟩ : Array Oper).toList (es1 ++ e :: es2) (fun _ => true) (fF fr) p = fF fr1 from hFp] at this
  · have := h2 k hk
    rwa [show runO (⟨ops⟩ : Array Oper).toList (es1 ++ e :: es2) (fun _ => true) (fO ow) p = fO ow1 from hOp] at this
  · have hk : k < ops.length := by
      have := (List.getElem?_eq_some_iff.1 he').1
      omega
    have := List.all_eq_true.1 hokp k (List.mem_range.2 hk)
    simp only [Bool.or_eq_true] at this
    rcases this with (h3 | h3) | h3
    · exact absurd (Nat.eq_of_beq_eq_true h3) hkp
    · rw [List.getD_eq_getElem?_getD, List.getElem?_map, he'] at h3
      simp only [Option.map_some, Option.getD_some, List.isEmpty_iff, List.map_eq_nil_iff] at h3
      exact absurd h3 hw
    · exact hanc k p h3
  · have hkk : (Array.replicate (⟨ops⟩ : Array Oper).size false).getD p true = !decide (p < (⟨ops⟩ : Array Oper).size) := congrFun hnone p
    rw [hkk, decide_eq_true (show p < (⟨ops⟩ : Array Oper).size from hplt)]
    rfl
  · have hlt : i < (⟨ops⟩ : Array Oper).size := (Array.getElem?_eq_some_iff.1 hi).1
    have hkk : (Array.replicate (⟨ops⟩ : Array Oper).size false).getD i true = !decide (i < (⟨ops⟩ : Array Oper).size) := congrFun hnone i
    rw [hkk, decide_eq_true hlt] at hL
    cases hL
  · rw [show runF (⟨ops⟩ : Array Oper).toList (es1 ++ e :: es2) _ (fF fr) _ = fF fr from e1 _ (Nat.le_refl _), show runO (⟨ops⟩ : Array Oper).toList (es1 ++ e :: es2) _ (fO ow) _ = fO ow from e2 _ (Nat.le_refl _)]
    exact hr.drew
  · rw [hO3]
    obtain ⟨S, r, g1, g2, g3, g4, g5, g6⟩ := hrep
    exact ⟨S, r, g1, g2, fun t => .any .., g4, g5, g6⟩
end

section
variable {X : Ctx} {n : Nat} {all post : List Oper} {fr : Fr} {ow ow0 : Ow} {Q : Exit → Fr → Ow → Prop} {tr : List (List Nat × List Nat)}
variable {t p : Nat} {op : Op} {ty : TypeId} {pos : String} {af : Array Edge} {f : FuncId} {args : List D} {pv : Value}

theorem t_panD (p : Nat) {id : Nat} {ops : List Oper} (h : splitOp3 p ops fun pre o post => CT Tryd.prog X n ops pre fr ow [] fun fr1 ow1 tr1 => PanDraw Tryd.prog X n Q ops p ow o post fr1 ow1 tr1) : T Tryd.prog X n (.region id ⟨ops⟩ true) fr ow Q := T.drawP p mixed h

theorem pd_lend1 {o1 o1' : Own} (k : Nat) (d : D) (hc : callOf fr op = some (f, args)) (hP : ∀ vs w, (callFunc f vs).run Tryd.prog w = .ok (.enter f vs) w) (hk : look k ow = some o1)
    (hok : (args.map (lendA [k])).all (D.okIn [k]) = true) (hf1 : o1.okIn [k] = true) (hf2 : o1'.okIn [k] = true)
    (hC : CtrP Tryd.prog f (args.map (lendA [k])) [(k, o1)] pv [(k, o1')])
    (h : CT Tryd.prog X n all post ((t, d) :: fr) ((k, o1') :: ow) (tr ++ [([k], [k])]) fun _ _ tr => flowOk all tr = true ∧ okPan p all tr = true ∧ Pnc pv Q [] ((k, o1') :: ow0)) : PanDraw Tryd.prog X n Q all p ow0 ⟨some t, op, ty, pos, af, none⟩ post fr ow tr := by
  refine ⟨rfl, pchain pv, ⟨d, [k], [(k, o1')]⟩, (t, d) :: fr, (k, o1') :: ow, fun F' O' he hO => lendP_step (o := ⟨some t, op, ty, pos, af, none⟩) (ow := ow) (lo := [(k, o1)]) (lo' := [(k, o1')]) (ids := [k]) hP hc ⟨hk, trivial⟩ rfl rfl (by simp) hok (by simp [hf1]) (by simp [hf2]) hC F' O' he hO, fF_cons .., fO_cons .., ?_⟩
  obtain ⟨es, fr', ow', hch, h1, h2, h3⟩ := h
  refine ⟨es, fr', ow', hch, h1, h2, (k, o1') :: ow0, fO_cons .., ?_⟩
  unfold Pnc at h3
  exact h3
end

end Go.Proofs.YtbegohehjkjnmaaDoor.Flow

namespace Go.Proofs.YtbegohehjkjnmaaDoor.Flow

section
variable {P : Program} {X : Ctx} {n : Nat} {o : Oper} {fr : Fr} {ow : Ow} {T : TypeId} {x : Operand} {k1 k2 : IntKind} {a b : Int} {fs : Array Field}

theorem iface2_step (hT : P.underlying T = some (.struct fs)) (ho : o.op = .makeInterface T x) (hx : ev fr x = .ag [.i k1 a, .i k2 b]) (hd : dstOk o.dst n) :
    ∀ F' O', (∀ y ∈ o.op.operands.toList, evF F' y = evF (fF fr) y) → (∀ j ∈ ([] : List Nat), O' j = fO ow j) → StepAt P X n o F' O' (.v (.iface T (.agg #[.int k1 a, .int k2 b]))) [] := by
  intro F' O' he _
  refine stepAt_of hd fun ac w S r hH hI hr => ?_
  have hx' := hr x
  rw [he x (by simp [ho, Op.operands]), evF_fF, hx] at hx'
  refine ⟨.iface T (.agg #[.int k1 a, .int k2 b]), w, S, r, .inl ?_, .v .., hH, hI, fun _ _ h => h, fun _ _ _ => rfl, RhoLe.refl r⟩
  generalize hv : ac.eval x = v at hx'
  cases hx' with
  | ag _ _ vs hn h =>
    have h0 := h 0 (by simp)
    have h1 := h 1 (by simp)
    have hvs : vs = #[vs.getD 0 undef, vs.getD 1 undef] := by
      obtain ⟨l⟩ := vs
      match l, hn with
      | [p, q], _ => rfl
    generalize vs.getD 0 undef = u0 at *
    generalize vs.getD 1 undef = u1 at *
    subst hvs
    cases h0
    cases h1
    simp [execOp, ho, hv, Instr.makeInterface, run_underlying hT, Result.andThen]
end

section
variable {X : Ctx} {n : Nat} {all rest : List Oper} {fr : Fr} {ow : Ow} {tr : List (List Nat × List Nat)} {K : Fr → Ow → List (List Nat × List Nat) → Prop} {Q : Exit → Fr → Ow → Prop}
variable {t : Nat} {ty T : TypeId} {ps : String} {af : Array Edge} {x : Operand} {k1 k2 : IntKind} {a b : Int} {fs : Array Field} {pv : Value} {tt : TypeId}

set_option maxRecDepth 100000 in
theorem r_iface2 (hT : Tryd.prog.underlying T = some (.struct fs)) (hx : ev fr x = .ag [.i k1 a, .i k2 b]) (hn : Nat.blt t n = true)
    (h : CT Tryd.prog X n all rest ((t, .v (.iface T (.agg #[.int k1 a, .int k2 b]))) :: fr) ow (tr ++ [([], [])]) K) : CT Tryd.prog X n all (⟨some t, .makeInterface T x, ty, ps, af, none⟩ :: rest) fr ow tr K :=
  CT.cons (e := ⟨.v (.iface T (.agg #[.int k1 a, .int k2 b])), [], []⟩) (.plain rfl (iface2_step (P := Tryd.prog) (X := X) (o := ⟨some t, .makeInterface T x, ty, ps, af, none⟩) hT rfl hx (show t < n from Nat.le_of_ble_eq_true hn))) (fF_cons ..) rfl h

set_option maxRecDepth 100000 in
theorem p_panic {v : Value} (hx : ev fr x = .v (.iface tt v)) (h : Pnc (.iface tt v) Q fr ow) : PanGoal Tryd.prog X n Q ⟨none, .panic x, ty, ps, af, none⟩ fr ow := by
  refine ⟨rfl, pchain (.iface tt v), [], ow, fun ac w K Q' hr hQ => ?_, rfl, ?_⟩
  · have hx' : ac.eval x = .iface tt v := by
      obtain ⟨S, r, hH, _, hF, _⟩ := hr
      have := evF_rel hH.glob hF x
      rw [evF_fF, hx] at this
      generalize ac.eval x = u at this
      cases this
      rfl
    have hrun : (execOp ac.eval ⟨none, .panic x, ty, ps, af, none⟩).run Tryd.prog w = .halt (.panic (.iface tt v)) w := by
      simp [execOp, hx', Instr.panic]
    exact OW.panic (fun c e => by cases e) hrun (hQ w hr)
  · unfold Pnc at h
    exact h
end

section
variable {n : Nat} {fr : Fr} {ow : Ow} {pv : Value} {f : FuncId} {args : List D}
def EndsP (pv : Value) (lo : Ow) (e : Exit) (_ : Fr) (ow : Ow) : Prop := e = .panic (pchain pv) ∧ leOw ow lo

theorem p_endP {pv' : Value} {lo : Ow} (he : pv' = pv) (hlo : leOw ow lo) : Pnc pv' (EndsP pv lo) fr ow := by
  unfold Pnc
  subst he
  exact ⟨rfl, hlo⟩

theorem r_methP {fn : Func} {c : Code} {N : Nat} {lo lo' : Ow} {ids : List Nat} (hf : Tryd.prog.funcs[f]? = some fn) (hb : fn.body = some c) (hN : fn.ntmps = N) (hlen : Nat.ble args.length N = true)
    (hi1 : lo.map (·.1) = ids) (hi2 : lo'.map (·.1) = ids) (hcs : lo'.all (fun x => x.2.okIn ids) = true)
    (h : ∀ X : Ctx, Lent X → X.ids = ids → T Tryd.prog X N c (slots 0 args) lo (EndsP pv lo')) : CtrP Tryd.prog f args lo pv lo' :=
  CtrP.of_T hf hb hN (by simpa using hlen) (by rw [hi2]; exact hcs) (hi2.trans hi1.symm) fun X hL hX => h X hL (hX.trans hi1)
end

end Go.Proofs.YtbegohehjkjnmaaDoor.Flow

namespace Go.Proofs.YtbegohehjkjnmaaDoor.Flow
open Go

abbrev pO (s : List UInt8) (i : Int) : Ow := [(5, .var [.i .i64 i]), (1, .var [.s s])]
abbrev pF : D := .fn 81 [.pv 5 0, .pv 1 0]
abbrev pO3 (s : List UInt8) (i : Int) : Ow := [(5, .var [.i .i64 i]), (6, .var [pF]), (1, .var [.s s])]

theorem is_ctr (set : List UInt8) (p : Int → Prop) [DecidablePred p] (hp : ∀ c : Int, 0 ≤ c → c < 256 → (0 ≤ Lib.indexByte set c.toNat.toUInt8 ↔ p c)) (s : List UInt8) (i : Nat) (_hs : s.length ≤ 1048576) (hi : i ≤ s.length) :
    CtrO Tryd.prog 81 [.s set, .pv 5 0, .pv 1 0] (pO s i) (.b (decide (i < s.length ∧ p (at' s i)))) (pO s i) := by
  have hr := at_range s i
  have h1 := hp (at' s i) hr.1 hr.2
  have c1 := indexByte_ctr set (at' s i)
  generalize Lib.indexByte set (at' s i).toNat.toUInt8 = z at h1 c1
  refine r_methM Tryd.func81 rfl Tryd.ntmps81 Tryd.results81 rfl rfl rfl rfl rfl fun X hL hX => ?_
  repeat' (first |with_reducible (first |refine t_seq ?_|refine t_region ?_|refine c_nil ?_|refine n_then ?_|refine t_ret ?_|refine t_skip ?_|refine t_exit ?_|refine t_block ?_|refine n_block ?_|refine e_then ?_|refine x_then ?_|refine x_block ?_|refine t_draw ?_)|refine r_val rfl rfl True.intro ?_|refine r_gskip rfl rfl rfl ?_|refine r_gskip2 rfl rfl rfl ?_|refine r_gval rfl rfl rfl rfl True.intro ?_|refine t_true rfl ?_|refine t_false rfl ?_|((first |refine t_cond_d rfl ?_ ?_|refine t_cond_i rfl ?_ ?_|refine t_cond_j rfl ?_ ?_|refine t_cond_s rfl ?_ ?_|refine t_cond_n rfl ?_ ?_|refine t_cond rfl ?_ ?_|refine c_split_d rfl rfl ?_ ?_|refine c_split_i rfl rfl ?_ ?_|refine c_split_j rfl rfl ?_ ?_|refine c_split_s rfl rfl ?_ ?_|refine c_split_n rfl rfl ?_ ?_)<;>intro<;>try (first |contradiction|(exfalso;omega)))|((first |refine r_val rfl rfl ?_ ?_|refine r_gval rfl rfl rfl rfl ?_ ?_|refine r_obj rfl rfl ?_ ?_|refine r_sto rfl ?_ ?_|refine r_gobj rfl rfl rfl rfl ?_ ?_);focus (first |omega|exact le_ rfl|((repeat first |rw [wrap_u8]|rw [IntKind.wrap_i64]|rw [IntKind.wrap_i32]|rw [wrap_u32']|rw [wrap_u64']);(repeat' refine And.intro ?_ ?_)<;>omega)|((repeat' refine And.intro ?_ ?_)<;>first |omega|rfl|exact Nat.le_refl _|exact le_ rfl|exact bytesF_one _)|(simp_all;done)|(simp_all;omega)))|refine e_hit rfl ?_|refine e_miss rfl ?_|with_reducible refine ⟨by kernel_rfl, ?_⟩|refine x_endM rfl ?_ ?_|refine n_endM rfl ?_ ?_|refine r_gcall (f := 44) rfl rfl rfl rfl Tryd.call44 rfl c1 ?_|((with_reducible refine c_grd ?_);(fail_if_success (refine c_lit true rfl rfl rfl ?_));(fail_if_success (refine c_lit false rfl rfl rfl ?_));refine c_split rfl rfl (fun _ => ?_) (fun _ => ?_)))
  · exact congrArg D.b (decide_eq_decide.2 ⟨fun h => ⟨by omega, h1.1 h⟩, fun h => h1.2 h.2⟩)
  · exact ⟨⟨rfl, rfl, trivial⟩⟩
  · rw [decide_eq_false (fun h => ‹¬ (i : Int) < s.length› (by omega))]
  · exact ⟨⟨rfl, rfl, trivial⟩⟩

theorem index_one (a : UInt8) (c : Int) (h0 : 0 ≤ c) (h1 : c < 256) : 0 ≤ Lib.indexByte [a] c.toNat.toUInt8 ↔ c = (a.toNat : Int) := by
  have e : (a == c.toNat.toUInt8) = decide (c = (a.toNat : Int)) := by
    rw [Bool.eq_iff_iff, beq_iff_eq, decide_eq_true_iff]
    constructor
    · rintro rfl
      have : c.toNat < 256 := by omega
      simp [Nat.toUInt8]
      omega
    · rintro rfl
      simp [Nat.toUInt8]
  unfold Lib.indexByte
  rw [e]
  by_cases h : c = (a.toNat : Int)
  · simp [h]
  · simp [h, Lib.indexByte]

theorem index_cons (a : UInt8) (l : List UInt8) (c : Int) (h0 : 0 ≤ c) (h1 : c < 256) : 0 ≤ Lib.indexByte (a :: l) c.toNat.toUInt8 ↔ c = (a.toNat : Int) ∨ 0 ≤ Lib.indexByte l c.toNat.toUInt8 := by
  have e : (a == c.toNat.toUInt8) = decide (c = (a.toNat : Int)) := by
    rw [Bool.eq_iff_iff, beq_iff_eq, decide_eq_true_iff]
    constructor
    · rintro rfl
      have : c.toNat < 256 := by omega
      simp [Nat.toUInt8]
      omega
    · rintro rfl
      simp [Nat.toUInt8]
  have hg := Lib.indexByte_ge l c.toNat.toUInt8
  conv => lhs; unfold Lib.indexByte
  rw [e]
  generalize Lib.indexByte l c.toNat.toUInt8 = z at *
  by_cases h : c = (a.toNat : Int)
  · simp [h]
  · by_cases hz : z = -1
    · simp [h, hz]
    · simp [h, hz]
      omega

theorem set_digits : ∀ c : Int, 0 ≤ c → c < 256 → (0 ≤ Lib.indexByte ({ data := #[48, 49, 50, 51, 52, 53, 54, 55, 56, 57] } : ByteArray).data.toList c.toNat.toUInt8 ↔ 48 ≤ c ∧ c ≤ 57) := fun c h0 h1 => by
  show 0 ≤ Lib.indexByte [48, 49, 50, 51, 52, 53, 54, 55, 56, 57] c.toNat.toUInt8 ↔ _
  rw [index_cons _ _ _ h0 h1, index_cons _ _ _ h0 h1, index_cons _ _ _ h0 h1, index_cons _ _ _ h0 h1, index_cons _ _ _ h0 h1, index_cons _ _ _ h0 h1, index_cons _ _ _ h0 h1, index_cons _ _ _ h0 h1, index_cons _ _ _ h0 h1, index_one _ _ h0 h1]
  simp
  omega
theorem set_1 (a : UInt8) : ∀ c : Int, 0 ≤ c → c < 256 → (0 ≤ Lib.indexByte [a] c.toNat.toUInt8 ↔ c = (a.toNat : Int)) := fun c h0 h1 => index_one a c h0 h1
theorem set_2 (a b : UInt8) : ∀ c : Int, 0 ≤ c → c < 256 → (0 ≤ Lib.indexByte [a, b] c.toNat.toUInt8 ↔ c = (a.toNat : Int) ∨ c = (b.toNat : Int)) := fun c h0 h1 => by rw [index_cons _ _ _ h0 h1, index_one _ _ h0 h1]

theorem digits_ctr (s : List UInt8) (i : Nat) (hs : s.length ≤ 1048576) (hi : i ≤ s.length) :
    CtrO Tryd.prog 82 [.pv 5 0, .pv 6 0, .pv 1 0] (pO3 s i) (.s (dgT s i)) (pO3 s ((i + (dgT s i).length : Nat) : Int)) := by
  refine r_methM Tryd.func82 rfl Tryd.ntmps82 Tryd.results82 rfl rfl rfl rfl rfl fun X hL hX => ?_
  repeat' (first |with_reducible (first |refine t_seq ?_|refine t_region ?_|refine c_nil ?_|refine n_then ?_|refine t_ret ?_|refine t_skip ?_|refine t_exit ?_|refine t_block ?_|refine n_block ?_|refine e_then ?_|refine x_then ?_|refine x_block ?_|refine t_draw ?_)|refine r_val rfl rfl True.intro ?_|refine r_gskip rfl rfl rfl ?_|refine r_gskip2 rfl rfl rfl ?_|refine r_gval rfl rfl rfl rfl True.intro ?_|refine t_true rfl ?_|refine t_false rfl ?_|((first |refine t_cond_d rfl ?_ ?_|refine t_cond_i rfl ?_ ?_|refine t_cond_j rfl ?_ ?_|refine t_cond_s rfl ?_ ?_|refine t_cond_n rfl ?_ ?_|refine t_cond rfl ?_ ?_|refine c_split_d rfl rfl ?_ ?_|refine c_split_i rfl rfl ?_ ?_|refine c_split_j rfl rfl ?_ ?_|refine c_split_s rfl rfl ?_ ?_|refine c_split_n rfl rfl ?_ ?_)<;>intro<;>try (first |contradiction|(exfalso;omega)))|((first |refine r_val rfl rfl ?_ ?_|refine r_gval rfl rfl rfl rfl ?_ ?_|refine r_obj rfl rfl ?_ ?_|refine r_sto rfl ?_ ?_|refine r_gobj rfl rfl rfl rfl ?_ ?_);focus (first |omega|exact le_ rfl|((repeat first |rw [wrap_u8]|rw [IntKind.wrap_i64]|rw [IntKind.wrap_i32]|rw [wrap_u32']|rw [wrap_u64']);(repeat' refine And.intro ?_ ?_)<;>omega)|((repeat' refine And.intro ?_ ?_)<;>first |omega|rfl|exact Nat.le_refl _|exact le_ rfl|exact bytesF_one _)|(simp_all;done)|(simp_all;omega)))|refine e_hit rfl ?_|refine e_miss rfl ?_|with_reducible refine ⟨by kernel_rfl, ?_⟩|refine x_endM rfl ?_ ?_|refine n_endM rfl ?_ ?_|((with_reducible refine c_grd ?_);(fail_if_success (refine c_lit true rfl rfl rfl ?_));(fail_if_success (refine c_lit false rfl rfl rfl ?_));refine c_split rfl rfl (fun _ => ?_) (fun _ => ?_)))
  refine T.loop hL (fun k : Nat => [(0, .pv 5 0), (1, .pv 6 0), (2, .pv 1 0), (4, .i .i64 i)]) (fun k => pO3 s k) (fun k => i ≤ k ∧ k ≤ s.length ∧ k + (dgT s k).length = i + (dgT s i).length) (fun k => s.length - k) i ⟨Nat.le_refl _, hi, rfl⟩
    ⟨⟨rfl, rfl, rfl, rfl, trivial⟩, ⟨rfl, rfl, rfl, trivial⟩, rfl, by rw [hX]; intro k hk; exact hk⟩ ?_
  rintro k ⟨g1, g2, g3⟩
  have c1 := is_ctr _ (fun c => 48 ≤ c ∧ c ≤ 57) set_digits s k hs g2
  by_cases hd : k < s.length ∧ 48 ≤ at' s k ∧ at' s k ≤ 57
  · rw [decide_eq_true (by exact hd)] at c1
    have h2 := dgT_more hd.1 hd.2
    have g3 := fun _ : Unit => g3
    repeat' (first |with_reducible (first |refine t_seq ?_|refine t_region ?_|refine c_nil ?_|refine n_then ?_|refine t_ret ?_|refine t_skip ?_|refine t_exit ?_|refine t_block ?_|refine n_block ?_|refine e_then ?_|refine x_then ?_|refine x_block ?_|refine t_draw ?_)|refine r_val rfl rfl True.intro ?_|refine r_gskip rfl rfl rfl ?_|refine r_gskip2 rfl rfl rfl ?_|refine r_gval rfl rfl rfl rfl True.intro ?_|refine t_true rfl ?_|refine t_false rfl ?_|((first |refine t_cond_d rfl ?_ ?_|refine t_cond_i rfl ?_ ?_|refine t_cond_j rfl ?_ ?_|refine t_cond_s rfl ?_ ?_|refine t_cond_n rfl ?_ ?_|refine t_cond rfl ?_ ?_|refine c_split_d rfl rfl ?_ ?_|refine c_split_i rfl rfl ?_ ?_|refine c_split_j rfl rfl ?_ ?_|refine c_split_s rfl rfl ?_ ?_|refine c_split_n rfl rfl ?_ ?_)<;>intro<;>try (first |contradiction|(exfalso;omega)))|((first |refine r_val rfl rfl ?_ ?_|refine r_gval rfl rfl rfl rfl ?_ ?_|refine r_obj rfl rfl ?_ ?_|refine r_sto rfl ?_ ?_|refine r_gobj rfl rfl rfl rfl ?_ ?_);focus (first |omega|exact le_ rfl|((repeat first |rw [wrap_u8]|rw [IntKind.wrap_i64]|rw [IntKind.wrap_i32]|rw [wrap_u32']|rw [wrap_u64']);(repeat' refine And.intro ?_ ?_)<;>omega)|((repeat' refine And.intro ?_ ?_)<;>first |omega|rfl|exact Nat.le_refl _|exact le_ rfl|exact bytesF_one _)|(simp_all;done)|(simp_all;omega)))|refine e_hit rfl ?_|refine e_miss rfl ?_|with_reducible refine ⟨by kernel_rfl, ?_⟩|refine x_endM rfl ?_ ?_|refine n_endM rfl ?_ ?_|refine r_lend2 (f := 81) 5 1 rfl rfl Tryd.call81 rfl rfl rfl rfl rfl rfl rfl rfl rfl c1 ?_|((with_reducible refine c_grd ?_);(fail_if_success (refine c_lit true rfl rfl rfl ?_));(fail_if_success (refine c_lit false rfl rfl rfl ?_));refine c_split rfl rfl (fun _ => ?_) (fun _ => ?_)))
    exact ⟨k + 1, ⟨by omega, by omega, by rw [← g3 (), h2, List.length_cons]; omega⟩, by omega, ⟨rfl, rfl, rfl, rfl, trivial⟩, ⟨rfl, rfl, rfl, trivial⟩, rfl, by rw [hX]; intro k hk; exact hk⟩
  · rw [decide_eq_false (by exact hd)] at c1
    have h2 : dgT s k = [] := dgT_stop (by
      by_cases h : k < s.length
      · exact .inr (fun h3 => hd ⟨h, h3⟩)
      · exact .inl h)
    rw [h2] at g3
    have hk : k = i + (dgT s i).length := by simpa using g3
    have hcut := fun _ : Unit => dgT_cut s i
    subst hk
    clear g3 h2
    repeat' (first |with_reducible (first |refine t_seq ?_|refine t_region ?_|refine c_nil ?_|refine n_then ?_|refine t_ret ?_|refine t_skip ?_|refine t_exit ?_|refine t_block ?_|refine n_block ?_|refine e_then ?_|refine x_then ?_|refine x_block ?_|refine t_draw ?_)|refine r_val rfl rfl True.intro ?_|refine r_gskip rfl rfl rfl ?_|refine r_gskip2 rfl rfl rfl ?_|refine r_gval rfl rfl rfl rfl True.intro ?_|refine t_true rfl ?_|refine t_false rfl ?_|((first |refine t_cond_d rfl ?_ ?_|refine t_cond_i rfl ?_ ?_|refine t_cond_j rfl ?_ ?_|refine t_cond_s rfl ?_ ?_|refine t_cond_n rfl ?_ ?_|refine t_cond rfl ?_ ?_|refine c_split_d rfl rfl ?_ ?_|refine c_split_i rfl rfl ?_ ?_|refine c_split_j rfl rfl ?_ ?_|refine c_split_s rfl rfl ?_ ?_|refine c_split_n rfl rfl ?_ ?_)<;>intro<;>try (first |contradiction|(exfalso;omega)))|((first |refine r_val rfl rfl ?_ ?_|refine r_gval rfl rfl rfl rfl ?_ ?_|refine r_obj rfl rfl ?_ ?_|refine r_sto rfl ?_ ?_|refine r_gobj rfl rfl rfl rfl ?_ ?_);focus (first |omega|exact le_ rfl|((repeat first |rw [wrap_u8]|rw [IntKind.wrap_i64]|rw [IntKind.wrap_i32]|rw [wrap_u32']|rw [wrap_u64']);(repeat' refine And.intro ?_ ?_)<;>omega)|((repeat' refine And.intro ?_ ?_)<;>first |omega|rfl|exact Nat.le_refl _|exact le_ rfl|exact bytesF_one _)|(simp_all;done)|(simp_all;omega)))|refine e_hit rfl ?_|refine e_miss rfl ?_|with_reducible refine ⟨by kernel_rfl, ?_⟩|refine x_endM rfl ?_ ?_|refine n_endM rfl ?_ ?_|refine r_lend2 (f := 81) 5 1 rfl rfl Tryd.call81 rfl rfl rfl rfl rfl rfl rfl rfl rfl c1 ?_|((with_reducible refine c_grd ?_);(fail_if_success (refine c_lit true rfl rfl rfl ?_));(fail_if_success (refine c_lit false rfl rfl rfl ?_));refine c_split rfl rfl (fun _ => ?_) (fun _ => ?_)))
    · exact congrArg D.s (by rw [Int.toNat_natCast, Int.toNat_natCast]; exact hcut ())
    · exact ⟨⟨rfl, rfl, rfl, trivial⟩⟩

theorem powP_snoc (l : List UInt8) (c : UInt8) : powP (l ++ [c]) = min (10 * powP l + ((c.toNat : Int) - 48)) 1099511627776 := by simp [powP]

theorem power_ctr (x : List UInt8) (hx : ∀ c ∈ x, isD c = true) (hs : x.length ≤ 1048576) : Ctr Tryd.prog 83 [.s x] (.i .i64 (powP x)) := by
  refine r_fun Tryd.func83 rfl Tryd.ntmps83 Tryd.results83 rfl rfl fun X hL hX => ?_
  repeat' (first |with_reducible (first |refine t_seq ?_|refine t_region ?_|refine c_nil ?_|refine n_then ?_|refine t_ret ?_|refine t_skip ?_|refine t_exit ?_|refine t_block ?_|refine n_block ?_|refine e_then ?_|refine x_then ?_|refine x_block ?_|refine t_draw ?_)|refine r_val rfl rfl True.intro ?_|refine r_gskip rfl rfl rfl ?_|refine r_gskip2 rfl rfl rfl ?_|refine r_gval rfl rfl rfl rfl True.intro ?_|refine t_true rfl ?_|refine t_false rfl ?_|((first |refine t_cond_d rfl ?_ ?_|refine t_cond_i rfl ?_ ?_|refine t_cond_j rfl ?_ ?_|refine t_cond_s rfl ?_ ?_|refine t_cond_n rfl ?_ ?_|refine t_cond rfl ?_ ?_|refine c_split_d rfl rfl ?_ ?_|refine c_split_i rfl rfl ?_ ?_|refine c_split_j rfl rfl ?_ ?_|refine c_split_s rfl rfl ?_ ?_|refine c_split_n rfl rfl ?_ ?_)<;>intro<;>try (first |contradiction|(exfalso;omega)))|((first |refine r_val rfl rfl ?_ ?_|refine r_gval rfl rfl rfl rfl ?_ ?_|refine r_obj rfl rfl ?_ ?_|refine r_sto rfl ?_ ?_|refine r_gobj rfl rfl rfl rfl ?_ ?_);focus (first |omega|exact le_ rfl|((repeat first |rw [wrap_u8]|rw [IntKind.wrap_i64]|rw [IntKind.wrap_i32]|rw [wrap_u32']|rw [wrap_u64']);(repeat' refine And.intro ?_ ?_)<;>omega)|((repeat' refine And.intro ?_ ?_)<;>first |omega|rfl|exact Nat.le_refl _|exact le_ rfl|exact bytesF_one _)|(simp_all;done)|(simp_all;omega)))|refine e_hit rfl ?_|refine e_miss rfl ?_|with_reducible refine ⟨by kernel_rfl, ?_⟩|refine x_end rfl ?_|((with_reducible refine c_grd ?_);(fail_if_success (refine c_lit true rfl rfl rfl ?_));(fail_if_success (refine c_lit false rfl rfl rfl ?_));refine c_split rfl rfl (fun _ => ?_) (fun _ => ?_)))
  refine T.loop hL (fun y : Nat × Int => [(0, .s x), (3, .i .i64 y.2), (6, .i .i64 x.length), (7, .i .i64 y.1)]) (fun _ => []) (fun y => y.1 ≤ x.length ∧ 0 ≤ y.2 ∧ y.2 ≤ 1099511627776 ∧ y.2 = powP (x.take y.1)) (fun y => x.length - y.1) (0, 0) ⟨Nat.zero_le _, by decide, by decide, rfl⟩
    ⟨⟨rfl, rfl, rfl, rfl, trivial⟩, trivial, rfl, by rw [hX]; intro k hk; cases hk⟩ ?_
  rintro ⟨i, n⟩ ⟨g1, g2, g3, g4⟩
  dsimp only at g1 g2 g3 g4 ⊢
  have hd : i < x.length → 48 ≤ at' x i ∧ at' x i ≤ 57 := fun h => isD_iff.1 (hx _ (by simp [List.getD_eq_getElem?_getD, h]))
  have g4 := fun _ : Unit => g4
  have hw : i < x.length → IntKind.i64.wrap (IntKind.u8.wrap (at' x i - 48)) = at' x i - 48 := fun h => by
    have := hd h
    rw [wrap_u8, IntKind.wrap_i64]
    omega
  by_cases hi : i < x.length
  · have hw := hw hi
    have hd := hd hi
    repeat' (first |with_reducible (first |refine t_seq ?_|refine t_region ?_|refine c_nil ?_|refine n_then ?_|refine t_ret ?_|refine t_skip ?_|refine t_exit ?_|refine t_block ?_|refine n_block ?_|refine e_then ?_|refine x_then ?_|refine x_block ?_|refine t_draw ?_)|refine r_val rfl rfl True.intro ?_|refine r_gskip rfl rfl rfl ?_|refine r_gskip2 rfl rfl rfl ?_|refine r_gval rfl rfl rfl rfl True.intro ?_|refine t_true rfl ?_|refine t_false rfl ?_|((first |refine t_cond_d rfl ?_ ?_|refine t_cond_i rfl ?_ ?_|refine t_cond_j rfl ?_ ?_|refine t_cond_s rfl ?_ ?_|refine t_cond_n rfl ?_ ?_|refine t_cond rfl ?_ ?_|refine c_split_d rfl rfl ?_ ?_|refine c_split_i rfl rfl ?_ ?_|refine c_split_j rfl rfl ?_ ?_|refine c_split_s rfl rfl ?_ ?_|refine c_split_n rfl rfl ?_ ?_)<;>intro<;>try (first |(rename_i hz;first |exact tf_ hz|exact ft_ hz)|(exfalso;omega)))|((first |refine r_val rfl rfl ?_ ?_|refine r_gval rfl rfl rfl rfl ?_ ?_|refine r_obj rfl rfl ?_ ?_|refine r_sto rfl ?_ ?_|refine r_gobj rfl rfl rfl rfl ?_ ?_);focus (first |(rw [hw];(repeat' refine And.intro ?_ ?_)<;>omega)|omega|exact le_ rfl|((repeat first |rw [wrap_u8]|rw [IntKind.wrap_i64]|rw [IntKind.wrap_i32]|rw [wrap_u32']|rw [wrap_u64']);(repeat' refine And.intro ?_ ?_)<;>omega)|((repeat' refine And.intro ?_ ?_)<;>first |omega|rfl|exact Nat.le_refl _|exact le_ rfl|exact bytesF_one _)|(simp_all;done)|(simp_all;omega)))|refine e_hit rfl ?_|refine e_miss rfl ?_|with_reducible refine ⟨by kernel_rfl, ?_⟩|refine x_end rfl ?_|((with_reducible refine c_grd ?_);(fail_if_success (refine c_lit true rfl rfl rfl ?_));(fail_if_success (refine c_lit false rfl rfl rfl ?_));refine c_split rfl rfl (fun _ => ?_) (fun _ => ?_)))
    refine ⟨(i + 1, min (10 * n + IntKind.i64.wrap (IntKind.u8.wrap (at' x i - 48))) 1099511627776), ⟨by dsimp only; omega, by dsimp only; omega, by dsimp only; omega, ?_⟩, by dsimp only; omega, ⟨rfl, rfl, rfl, rfl, trivial⟩, trivial, rfl, by rw [hX]; intro k hk; cases hk⟩
    dsimp only
    rw [hw, take_snoc x i hi, powP_snoc, ← g4 ()]
    rfl
  ·
    repeat' (first |with_reducible (first |refine t_seq ?_|refine t_region ?_|refine c_nil ?_|refine n_then ?_|refine t_ret ?_|refine t_skip ?_|refine t_exit ?_|refine t_block ?_|refine n_block ?_|refine e_then ?_|refine x_then ?_|refine x_block ?_|refine t_draw ?_)|refine r_val rfl rfl True.intro ?_|refine r_gskip rfl rfl rfl ?_|refine r_gskip2 rfl rfl rfl ?_|refine r_gval rfl rfl rfl rfl True.intro ?_|refine t_true rfl ?_|refine t_false rfl ?_|((first |refine t_cond_d rfl ?_ ?_|refine t_cond_i rfl ?_ ?_|refine t_cond_j rfl ?_ ?_|refine t_cond_s rfl ?_ ?_|refine t_cond_n rfl ?_ ?_|refine t_cond rfl ?_ ?_|refine c_split_d rfl rfl ?_ ?_|refine c_split_i rfl rfl ?_ ?_|refine c_split_j rfl rfl ?_ ?_|refine c_split_s rfl rfl ?_ ?_|refine c_split_n rfl rfl ?_ ?_)<;>intro<;>try (first |(rename_i hz;first |exact tf_ hz|exact ft_ hz)|(exfalso;omega)))|((first |refine r_val rfl rfl ?_ ?_|refine r_gval rfl rfl rfl rfl ?_ ?_|refine r_obj rfl rfl ?_ ?_|refine r_sto rfl ?_ ?_|refine r_gobj rfl rfl rfl rfl ?_ ?_);focus (first |omega|exact le_ rfl|((repeat first |rw [wrap_u8]|rw [IntKind.wrap_i64]|rw [IntKind.wrap_i32]|rw [wrap_u32']|rw [wrap_u64']);(repeat' refine And.intro ?_ ?_)<;>omega)|((repeat' refine And.intro ?_ ?_)<;>first |omega|rfl|exact Nat.le_refl _|exact le_ rfl|exact bytesF_one _)|(simp_all;done)|(simp_all;omega)))|refine e_hit rfl ?_|refine e_miss rfl ?_|with_reducible refine ⟨by kernel_rfl, ?_⟩|refine x_end rfl ?_|((with_reducible refine c_grd ?_);(fail_if_success (refine c_lit true rfl rfl rfl ?_));(fail_if_success (refine c_lit false rfl rfl rfl ?_));refine c_split rfl rfl (fun _ => ?_) (fun _ => ?_)))
    rw [g4 (), List.take_of_length_le (by omega)]

end Go.Proofs.YtbegohehjkjnmaaDoor.Flow
