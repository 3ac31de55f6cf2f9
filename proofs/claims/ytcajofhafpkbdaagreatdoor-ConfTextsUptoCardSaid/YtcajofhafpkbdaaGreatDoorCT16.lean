/- The texts FlowPb, FlowPc, FlowPd, one behind the other. -/
import Derived.Test.YtcajofhafpkbdaaGreatDoorCT15
import Derived.Recover
namespace Go.Proofs.YtcajofhafpkbdaaGreatDoor.Flow
section
variable {P : Program} {X : Ctx} {n : Nat}
theorem zeB {l1 l2 : List Oper} {es1 es2 : List Eff} {L : Nat → Bool} {F : Nat → D} (h : es1.length = l1.length) : ∀ {k : Nat}, k ≤ l1.length → runF (l1 ++ l2) (es1 ++ es2) L F k = runF l1 es1 L F k
  | 0, _ => rfl
  | k + 1, hk => by
    rw [runF, runF, zeB h (by omega), List.getElem?_append_left (show k < l1.length by omega), List.getElem?_append_left (show k < es1.length by omega)]
theorem zer {l1 l2 : List Oper} {es1 es2 : List Eff} {L : Nat → Bool} {O : Nat → Option Own} (h : es1.length = l1.length) : ∀ {k : Nat}, k ≤ l1.length → runO (l1 ++ l2) (es1 ++ es2) L O k = runO l1 es1 L O k
  | 0, _ => rfl
  | k + 1, hk => by
    rw [runO, runO, zer h (by omega), List.getElem?_append_left (show k < l1.length by omega), List.getElem?_append_left (show k < es1.length by omega)]
theorem zgv {l1 l2 : List Oper} {es1 es2 : List Eff} {F : Nat → D} (h : es1.length = l1.length) : ∀ {j : Nat}, runF (l1 ++ l2) (es1 ++ es2) (fun _ => true) F (l1.length + j) = runF l2 es2 (fun _ => true) (runF l1 es1 (fun _ => true) F l1.length) j
  | 0 => by rw [Nat.add_zero, zeB h (Nat.le_refl _)]; rfl
  | j + 1 => by
    rw [← Nat.add_assoc, runF, runF, zgv h, List.getElem?_append_right (Nat.le_add_right _ _), List.getElem?_append_right (by omega), h, Nat.add_sub_cancel_left]
theorem zfU {l1 l2 : List Oper} {es1 es2 : List Eff} {O : Nat → Option Own} (h : es1.length = l1.length) : ∀ {j : Nat}, runO (l1 ++ l2) (es1 ++ es2) (fun _ => true) O (l1.length + j) = runO l2 es2 (fun _ => true) (runO l1 es1 (fun _ => true) O l1.length) j
  | 0 => by rw [Nat.add_zero, zer h (Nat.le_refl _)]; rfl
  | j + 1 => by
    rw [← Nat.add_assoc, runO, runO, zfU h, List.getElem?_append_right (Nat.le_add_right _ _), List.getElem?_append_right (by omega), h, Nat.add_sub_cancel_left]
theorem ziG (rd : Option Nat) {ops : Array Oper} {Q : Exit → Act → World → Prop} {F : Nat → D} {O : Nat → Option Own} {es : List Eff} {p : Nat} {op : Oper} {ep : Eff} {ch : List PanicEntry} (hlen0 : es.length = ops.toList.length)
    (hat : ∀ k o e, k ≠ p → ops.toList[k]? = some o → es[k]? = some e → LDoes P X n ops.toList o (runF ops.toList es (fun _ => true) F k) (runO ops.toList es (fun _ => true) O k) e)
    (hop : ops.toList[p]? = some op) (hep : es[p]? = some ep) (hg : op.guard = none)
    (hpan : ∀ F' O', (∀ t ∈ seesOf ops.toList op, F' t = runF ops.toList es (fun _ => true) F p t) → (∀ k ∈ ep.rd, O' k = runO ops.toList es (fun _ => true) O p k) → PanAt P X n op F' O' ch ep.wr)
    (hok : flowOk ops.toList (es.map fun e => (e.rd, e.wr.map (·.1))) = true) (hwr : ∀ k e, k ≠ p → es[k]? = some e → e.wr ≠ [] → Anc ops.toList k p)
    (hQ : ∀ a w F', Rep X n F' (updO O ep.wr) a w → Q (.panic ch) a w) :
    ∀ (fuel : Nat) (listed : Array Bool) (a : Act) (w : World), listed.size = ops.size → listed.getD p true = false → Closed ops listed → ((List.range ops.size).countP fun i => !listed.getD i true) ≤ fuel →
      Rep X n (runF ops.toList es (fun i => listed.getD i true) F ops.size) (runO ops.toList es (fun i => listed.getD i true) O ops.size) a w → wpAnyIn (fR rd) 0 P .any ops Q fuel listed a w := by
  have hN : ops.toList.length = ops.size := Array.length_toList
  have hlen := hlen0
  rw [hN] at hlen
  simp only [flowOk, Bool.and_eq_true] at hok
  obtain ⟨hall, hback⟩ := hok
  have hanc := zeg (ops := ops.toList) ops.toList [] (fun j => by simp) (fun k j hk => by simp at hk)
  -- two operations that are not ordered do not clash
  have hcl : ∀ i k oi ok ei ek, ops.toList[i]? = some oi → ops.toList[k]? = some ok → es[i]? = some ei → es[k]? = some ek → i < k → ¬ Anc ops.toList k i → clash (footAt ops.toList oi ei) (footAt ops.toList ok ek) = false := by
    intro i k oi ok ei ek h1 h2 h3 h4 hik hna
    have := zeK hall rfl i k _ _ (by simpa using zfM (all := ops.toList) h1 h3) (by simpa using zfM (all := ops.toList) h2 h4) hik (Nat.zero_le _)
    rcases this with h | h
    · exact absurd (hanc k i h) hna
    · exact h
  have hes : ∀ i o, ops[i]? = some o → ∃ e, es[i]? = some e := fun i o ho => by
    have : i < ops.size := (Array.getElem?_eq_some_iff.1 ho).1
    exact ⟨_, List.getElem?_eq_getElem (by omega)⟩
  -- nothing ready: all listed
  have hdone : ∀ listed : Array Bool, listed.size = ops.size → Region.ready .any ops listed = [] → ∀ i, listed.getD i true = true := by
    intro listed hz hr i
    induction i using Nat.strongRecOn with
    | _ i ih =>
      cases hL : listed.getD i true with
      | true => rfl
      | false =>
        exfalso
        have hi : i < ops.size := by
          rcases Nat.lt_or_ge i listed.size with h | h
          · omega
          · rw [Array.getD_eq_getD_getElem?, Array.getElem?_eq_none h] at hL
            cases hL
        have hmem : i ∈ Region.ready .any ops listed := by
          refine mem_ready.2 ⟨hL, ops[i], by simp [hi], fun e he hb => ?_⟩
          have hlt := zee hback i ops[i] (by simp [hi]) e (by simpa using he) hb
          have := ih e.on (by omega)
          rwa [zcF (b := true) (by omega)]
        rw [hr] at hmem
        cases hmem
  have hno : ∀ listed : Array Bool, listed.size = ops.size → listed.getD p true = false → Region.ready .any ops listed = [] → False := fun listed hz hlp hr => by
    rw [hdone listed hz hr p] at hlp
    cases hlp
  intro fuel
  induction fuel with
  | zero =>
    intro listed a w hz hlp hc hn hrep
    have hr : Region.ready .any ops listed = [] := by
      apply List.eq_nil_iff_forall_not_mem.2
      intro i hi
      obtain ⟨h1, o, ho, _⟩ := mem_ready.1 hi
      have hlt : i < ops.size := (Array.getElem?_eq_some_iff.1 ho).1
      have : 0 < (List.range ops.size).countP fun i => !listed.getD i true := List.countP_pos_iff.2 ⟨i, by simpa using hlt, by simp [h1]⟩
      omega
    exact (hno listed hz hlp hr).elim
  | succ fuel ih =>
    intro listed a w hz hlp hc hn hrep
    refine ⟨fun hr => (hno listed hz hlp hr).elim, fun j hj => ?_⟩
    obtain ⟨hjl, o, ho, hpre⟩ := mem_ready.1 hj
    have hjn : j < ops.size := (Array.getElem?_eq_some_iff.1 ho).1
    have hol : ops.toList[j]? = some o := by simpa using ho
    obtain ⟨e, he⟩ := hes j o ho
    -- whatever surely comes ahead of j has come up
    have hancj : ∀ i, Anc ops.toList j i → listed.getD i true = true := by
      intro i hi
      have hsize : ∀ k, listed.getD k false = true → listed.getD k true = true := fun k hk => by
        rcases Nat.lt_or_ge k listed.size with h | h
        · rw [zcF (b := false) h]; exact hk
        · simp [Array.getD_eq_getD_getElem?, Array.getElem?_eq_none h]
      cases hi with
      | one _ _ o' e' ho' he' hb hj' =>
        rw [hol] at ho'
        cases ho'
        subst hj'
        exact hsize _ (hpre e' (by simpa using he') hb)
      | more _ _ o' e' ho' he' hb t =>
        rw [hol] at ho'
        cases ho'
        exact hc.anc hz t (hsize _ (hpre e' (by simpa using he') hb))
    -- nothing that has come up and stands behind j in the text clashes with it; nothing that has not come up and stands ahead does
    have hafter : ∀ i oi ei, j ≤ i → ops.toList[i]? = some oi → es[i]? = some ei → listed.getD i true = true → clash (footAt ops.toList oi ei) (footAt ops.toList o e) = false := by
      intro i oi ei hji hoi hei hL
      have hne : j ≠ i := fun h => by subst h; rw [hjl] at hL; cases hL
      refine zgX _ _ (hcl j i o oi e ei hol hoi he hei (by omega) fun ha => ?_)
      have := hc.anc hz ha hL
      rw [hjl] at this
      cases this
    have hbefore : ∀ i oi ei, i < j → ops.toList[i]? = some oi → es[i]? = some ei → listed.getD i true = false → clash (footAt ops.toList oi ei) (footAt ops.toList o e) = false := by
      intro i oi ei hij hoi hei hL
      refine hcl i j oi o ei e hoi hol hei he hij fun ha => ?_
      have := hancj i ha
      rw [hL] at this
      cases this
    have hmj : ops.size = j + (ops.size - j) := by omega
    have hF : ∀ t, t ∈ seesOf ops.toList o ∨ t ∈ o.dst.toList → runF ops.toList es (fun i => listed.getD i true) F ops.size t = runF ops.toList es (fun _ => true) F j t := by
      intro t ht
      rw [hmj, zdm (fun i oi hji hoi hL => ?_), zcz (fun i oi hij hoi hne => ?_)]
      · have hL : listed.getD i true = false := by
          cases h : listed.getD i true with
          | false => rfl
          | true => exact absurd h hne
        obtain ⟨ei, hei⟩ := hes i oi (by simpa using hoi)
        have := hbefore i oi ei hij hoi hei hL
        simp only [clash, footAt, Bool.or_eq_false_iff] at this
        intro hmem
        rcases ht with ht | ht
        · exact zaG this.1.1.1 hmem ht
        · exact zaG this.1.1.2 hmem ht
      · obtain ⟨ei, hei⟩ := hes i oi (by simpa using hoi)
        have := hafter i oi ei hji hoi hei hL
        simp only [clash, footAt, Bool.or_eq_false_iff] at this
        intro hmem
        rcases ht with ht | ht
        · exact zaG this.1.1.1 hmem ht
        · exact zaG this.1.1.2 hmem ht
    have hO : ∀ t, t ∈ e.rd ∨ t ∈ e.wr.map (·.1) → runO ops.toList es (fun i => listed.getD i true) O ops.size t = runO ops.toList es (fun _ => true) O j t := by
      intro t ht
      have hoi : ∀ i ei, es[i]? = some ei → ∃ oi, ops.toList[i]? = some oi := fun i ei hei => by
        have : i < es.length := (List.getElem?_eq_some_iff.1 hei).1
        exact ⟨_, (Array.getElem?_toList).trans (Array.getElem?_eq_getElem (by omega))⟩
      rw [hmj, zcY (fun i ei hji hei hL => ?_), zcv (fun i ei hij hei hne => ?_)]
      · have hL : listed.getD i true = false := by
          cases h : listed.getD i true with
          | false => rfl
          | true => exact absurd h hne
        obtain ⟨oi, hoi⟩ := hoi i ei hei
        have := hbefore i oi ei hij hoi hei hL
        simp only [clash, footAt, Bool.or_eq_false_iff] at this
        intro hmem
        rcases ht with ht | ht
        · exact zaG this.2.1.1 hmem ht
        · exact zaG this.2.1.2 hmem ht
      · obtain ⟨oi, hoi⟩ := hoi i ei hei
        have := hafter i oi ei hji hoi hei hL
        simp only [clash, footAt, Bool.or_eq_false_iff] at this
        intro hmem
        rcases ht with ht | ht
        · exact zaG this.2.1.1 hmem ht
        · exact zaG this.2.1.2 hmem ht
    by_cases hjp : j = p
    · subst hjp
      rw [hop] at hol
      cases hol
      rw [hep] at he
      cases he
      have hOeq : ∀ m, runO ops.toList es (fun i => listed.getD i true) O m = O := by
        intro m
        induction m with
        | zero => rfl
        | succ m ihm =>
          rw [runO]
          split
          · rename_i hL
            split
            · rename_i o2 e2 ho2 he2
              have hm : m ≠ j := fun q => by
                subst q
                rw [hjl] at hL
                cases hL
              have hw0 : e2.wr = [] := by
                cases hw : e2.wr with
                | nil => rfl
                | cons x y =>
                  have := hc.anc hz (hwr m e2 hm he2 (by rw [hw]; simp)) hL
                  rw [hjl] at this
                  cases this
              rw [hw0]
              exact ihm
            · exact ihm
          · exact ihm
      unfold wpOpIn
      simp only [ho, Region.wanted, hg, if_true]
      refine OW.in rd (hpan _ _ (fun t ht => hF t (.inl ht)) (fun k hk => hO k (.inl hk)) a w _ _ hrep fun w' hr2 => hQ a w' (runF ops.toList es (fun i => listed.getD i true) F ops.size) ?_)
      rw [hOeq] at hr2
      exact hr2
    have hLd := hat j o e hjp hol he
    have hdoes := hLd _ _ (fun t ht => hF t (.inl ht)) (fun k hk => hO k (.inl hk))
    refine zcn ho hdoes hrep (fun a' w' hrep' => ?_) rd
    refine ih _ a' w' (by rw [Array.size_setIfInBounds]; exact hz) (by rw [getD_set_ne true hjp]; exact hlp) ?_ ?_ ?_
    · intro i oi hoi hL e' he' hb
      by_cases hij : j = i
      · subst hij
        rw [ho] at hoi
        cases hoi
        exact getD_set_true (hpre e' he' hb)
      · rw [getD_set_ne true hij] at hL
        exact getD_set_true (hc i oi hoi hL e' he' hb)
    · have hlt : ((List.range ops.size).countP fun i => !(listed.setIfInBounds j true).getD i true) < ((List.range ops.size).countP fun i => !listed.getD i true) := by
        refine zgi (j := j) (fun i hi => ?_) (by simp [hjl]) ?_ (by simpa using hjn)
        · by_cases hij : j = i
          · subst hij; simp [hjl]
          · rwa [getD_set_ne true hij] at hi
        · simp [Array.getD_eq_getD_getElem?, show j < listed.size by omega]
      omega
    · have hset : ∀ i, i ≠ j → (listed.setIfInBounds j true).getD i true = listed.getD i true := fun i hi => getD_set_ne true (Ne.symm hi)
      have hsetj : (listed.setIfInBounds j true).getD j true = true := by
        simp [Array.getD_eq_getD_getElem?, show j < listed.size by omega]
      have hmj1 : ops.size = j + 1 + (ops.size - (j + 1)) := by omega
      have eF : runF ops.toList es (fun i => (listed.setIfInBounds j true).getD i true) F ops.size = updF (runF ops.toList es (fun i => listed.getD i true) F ops.size) o.dst e.d := by
        funext t
        by_cases ht : t ∈ o.dst.toList
        · rw [hmj1, zdm (fun i oi hji hoi hL => ?_)]
          · rw [← hmj1]
            simp only [runF, hsetj, if_true, hol, he]
            exact zgg (.inl ht)
          · simp only [hset i (by omega)] at hL
            obtain ⟨ei, hei⟩ := hes i oi (by simpa using hoi)
            have := hafter i oi ei (by omega) hoi hei hL
            simp only [clash, footAt, Bool.or_eq_false_iff] at this
            exact fun hmem => zaG this.1.1.2 hmem ht
        · rw [zdi ht]
          refine zcz fun i oi hi hoi hne => ?_
          by_cases hij : i = j
          · subst hij
            rw [hol] at hoi
            cases hoi
            exact ht
          · exact absurd (hset i hij) hne
      have eO : runO ops.toList es (fun i => (listed.setIfInBounds j true).getD i true) O ops.size = updO (runO ops.toList es (fun i => listed.getD i true) O ops.size) e.wr := by
        funext t
        by_cases ht : t ∈ e.wr.map (·.1)
        · rw [hmj1, zcY (fun i ei hji hei hL => ?_)]
          · rw [← hmj1]
            simp only [runO, hsetj, if_true, hol, he]
            exact zeE (.inl ht)
          · simp only [hset i (by omega)] at hL
            have hlt : i < es.length := (List.getElem?_eq_some_iff.1 hei).1
            have hoi : ops.toList[i]? = some (ops[i]'(by omega)) := by simp [show i < ops.size by omega]
            have := hafter i _ ei (by omega) hoi hei hL
            simp only [clash, footAt, Bool.or_eq_false_iff] at this
            exact fun hmem => zaG this.2.1.2 hmem ht
        · rw [zcq ht]
          refine zcv fun i ei hi hei hne => ?_
          by_cases hij : i = j
          · subst hij
            rw [he] at hei
            cases hei
            exact ht
          · exact absurd (hset i hij) hne
      rw [eF, eO]
      exact hrep'
def okPan (p : Nat) (ops : List Oper) (tr : List (List Nat × List Nat)) : Bool := (List.range ops.length).all fun k => Nat.beq k p || (tr.getD k ([], [])).2.isEmpty || ((ancs ops []).getD k 0).testBit p
def splitOp3 : Nat → List Oper → (List Oper → Oper → List Oper → Prop) → Prop
  | 0, o :: r, K => K [] o r
  | k + 1, a :: r, K => splitOp3 k r fun pre o post => K (a :: pre) o post
  | _, [], _ => False
theorem zeo : ∀ {k : Nat} {ops : List Oper} {K : List Oper → Oper → List Oper → Prop}, splitOp3 k ops K → ∃ pre o post, ops = pre ++ o :: post ∧ pre.length = k ∧ K pre o post
  | 0, o :: r, _, h => ⟨[], o, r, rfl, rfl, h⟩
  | k + 1, a :: r, _, h => by
    obtain ⟨pre, o, post, h1, h2, h3⟩ := zeo (k := k) (ops := r) h
    exact ⟨a :: pre, o, post, by rw [h1]; rfl, by simp [h2], h3⟩
  | 0, [], _, h => h.elim
  | k + 1, [], _, h => h.elim
variable {fr : Fr} {ow : Ow} {Q : Exit → Fr → Ow → Prop}
def PanDraw (P : Program) (X : Ctx) (n : Nat) (Q : Exit → Fr → Ow → Prop) (all : List Oper) (p : Nat) (ow0 : Ow) (o : Oper) (post : List Oper) (fr : Fr) (ow : Ow) (tr : List (List Nat × List Nat)) : Prop :=
  o.guard = none ∧ ∃ (ch : List PanicEntry) (e : Eff) (fr2 : Fr) (ow2 : Ow), (∀ F' O', (∀ x ∈ o.op.operands.toList, evF F' x = evF (fF fr) x) → (∀ k ∈ e.rd, O' k = fO ow k) → PanAt P X n o F' O' ch e.wr) ∧ fF fr2 = updF (fF fr) o.dst e.d ∧ fO ow2 = updO (fO ow) e.wr ∧
    CT P X n all post fr2 ow2 (tr ++ [(e.rd, e.wr.map (·.1))]) fun _ _ tr => flowOk all tr = true ∧ okPan p all tr = true ∧ ∃ ow3, fO ow3 = updO (fO ow0) e.wr ∧ Q (.panic ch) [] ow3
theorem T.drawP {id : Nat} {ops : List Oper} (p : Nat) (hm : P.follows .mixedOrders = true) (h : splitOp3 p ops fun pre o post => CT P X n ops pre fr ow [] fun fr1 ow1 tr1 => PanDraw P X n Q ops p ow o post fr1 ow1 tr1) : T P X n (.region id ⟨ops⟩ true) fr ow Q := fun a w hr rd => by
  obtain ⟨pre, o, post, hs, hpl, es1, fr1, ow1, hc1, hg, ch, e, fr2, ow2, hp, hF2, hO2, es2, fr3, ow3', hc2, hok, hokp, ow3, hO3, hq⟩ := zeo h
  obtain ⟨hat1, hF1, hO1⟩ := hc1.at
  obtain ⟨hat2, _, _⟩ := hc2.at
  have hl1 := hc1.len
  have hl2 := hc2.len
  have htr : [] ++ es1.map (fun e => (e.rd, e.wr.map (·.1))) ++ [(e.rd, e.wr.map (·.1))] ++ es2.map (fun e => (e.rd, e.wr.map (·.1))) = (es1 ++ e :: es2).map fun e => (e.rd, e.wr.map (·.1)) := by simp
  rw [htr] at hok hokp
  have hlen : (es1 ++ e :: es2).length = ops.length := by
    rw [hs]
    simp [hl1, hl2]
  have hrunF : ∀ j, runF ops (es1 ++ e :: es2) (fun _ => true) (fF fr) (p + 1 + j) = runF post es2 (fun _ => true) (fF fr2) j := fun j => by
    have e1 : pre ++ o :: post = (pre ++ [o]) ++ post := by simp
    have e2 : es1 ++ e :: es2 = (es1 ++ [e]) ++ es2 := by simp
    have e3 : p + 1 = (pre ++ [o]).length := by simp [hpl]
    rw [hs, e1, e2, e3, zgv (by simp [hl1])]
    congr 1
    have e4 : (pre ++ [o]).length = pre.length + 1 := by simp
    rw [e4, zgv hl1, hF1, hF2]
    rfl
  have hrunO : ∀ j, runO ops (es1 ++ e :: es2) (fun _ => true) (fO ow) (p + 1 + j) = runO post es2 (fun _ => true) (fO ow2) j := fun j => by
    have e1 : pre ++ o :: post = (pre ++ [o]) ++ post := by simp
    have e2 : es1 ++ e :: es2 = (es1 ++ [e]) ++ es2 := by simp
    have e3 : p + 1 = (pre ++ [o]).length := by simp [hpl]
    rw [hs, e1, e2, e3, zfU (by simp [hl1])]
    congr 1
    have e4 : (pre ++ [o]).length = pre.length + 1 := by simp
    rw [e4, zfU hl1, hO1, hO2]
    rfl
  have hFp : runF ops (es1 ++ e :: es2) (fun _ => true) (fF fr) p = fF fr1 := by
    rw [hs, ← hpl, zeB hl1 (Nat.le_refl _), hF1]
  have hOp : runO ops (es1 ++ e :: es2) (fun _ => true) (fO ow) p = fO ow1 := by
    rw [hs, ← hpl, zer hl1 (Nat.le_refl _), hO1]
  have hanc := zeg (ops := ops) ops [] (fun j => by simp) (fun k j hk => by simp at hk)
  have hop : ops[p]? = some o := by rw [hs, ← hpl]; simp
  have hep : (es1 ++ e :: es2)[p]? = some e := by rw [← hpl, ← hl1]; simp
  refine wpIn_region_any hm ?_
  have hnone : (fun i => (Array.replicate (⟨ops⟩ : Array Oper).size false).getD i true) = fun i => !decide (i < (⟨ops⟩ : Array Oper).size) := by
    funext i
    by_cases hi : i < ops.length <;> simp [Array.getD_eq_getD_getElem?, hi]
  have hsz : (⟨ops⟩ : Array Oper).size = ops.length := rfl
  have e1 : ∀ k, k ≤ (⟨ops⟩ : Array Oper).size → runF ops (es1 ++ e :: es2) (fun i => (Array.replicate (⟨ops⟩ : Array Oper).size false).getD i true) (fF fr) k = fF fr := by
    intro k hk
    induction k with
    | zero => rfl
    | succ k ih =>
      have hk' : ¬ ((Array.replicate (⟨ops⟩ : Array Oper).size false).getD k true = true) := by
        have hkk : (Array.replicate (⟨ops⟩ : Array Oper).size false).getD k true = !decide (k < (⟨ops⟩ : Array Oper).size) := congrFun hnone k
        rw [hkk]
        simp only [Bool.not_eq_true', decide_eq_false_iff_not]
        omega
      rw [runF, if_neg hk']
      exact ih (by omega)
  have e2 : ∀ k, k ≤ (⟨ops⟩ : Array Oper).size → runO ops (es1 ++ e :: es2) (fun i => (Array.replicate (⟨ops⟩ : Array Oper).size false).getD i true) (fO ow) k = fO ow := by
    intro k hk
    induction k with
    | zero => rfl
    | succ k ih =>
      have hk' : ¬ ((Array.replicate (⟨ops⟩ : Array Oper).size false).getD k true = true) := by
        have hkk : (Array.replicate (⟨ops⟩ : Array Oper).size false).getD k true = !decide (k < (⟨ops⟩ : Array Oper).size) := congrFun hnone k
        rw [hkk]
        simp only [Bool.not_eq_true', decide_eq_false_iff_not]
        omega
      rw [runO, if_neg hk']
      exact ih (by omega)
  have hplt : p < ops.length := (List.getElem?_eq_some_iff.1 hop).1
  refine ziG rd (P := P) (X := X) (n := n) (ops := ⟨ops⟩) (F := fF fr) (O := fO ow) (es := es1 ++ e :: es2) (p := p) (op := o) (ep := e) (ch := ch) hlen (fun k o' e' hkp ho' he' => ?_) hop hep hg (fun F' O' h1 h2 => hp F' O' (zgC (all := ops) fun t ht => ?_) fun k hk => ?_) hok
    (fun k e' hkp he' hw => ?_) (fun a w F' hrep => ⟨[], ow3, hq, ?_⟩) (⟨ops⟩ : Array Oper).size _ a _ (by simp) ?_ (fun i o' hi hL => ?_) (Nat.le_trans List.countP_le_length (by simp)) ?_
  · have ho' : ops[k]? = some o' := ho'
    rcases Nat.lt_or_ge k p with hlt | hge
    · have := hat1 k o' e' (by rw [hs, List.getElem?_append_left (by omega)] at ho'; exact ho') (by rw [List.getElem?_append_left (by omega)] at he'; exact he')
      rw [show runF (⟨ops⟩ : Array Oper).toList (es1 ++ e :: es2) (fun _ => true) (fF fr) k = runF pre es1 (fun _ => true) (fF fr) k by show runF ops _ _ _ _ = _; rw [hs, zeB hl1 (by omega)],
        show runO (⟨ops⟩ : Array Oper).toList (es1 ++ e :: es2) (fun _ => true) (fO ow) k = runO pre es1 (fun _ => true) (fO ow) k by show runO ops _ _ _ _ = _; rw [hs, zer hl1 (by omega)]]
      exact this
    · obtain ⟨j, rfl⟩ : ∃ j, k = p + 1 + j := ⟨k - (p + 1), by omega⟩
      have := hat2 j o' e' (by
        rw [hs, List.getElem?_append_right (by omega), show p + 1 + j - pre.length = j + 1 by omega] at ho'
        simpa using ho') (by
        rw [List.getElem?_append_right (by omega), show p + 1 + j - es1.length = j + 1 by omega] at he'
        simpa using he')
      rw [show runF (⟨ops⟩ : Array Oper).toList (es1 ++ e :: es2) (fun _ => true) (fF fr) (p + 1 + j) = _ from hrunF j, show runO (⟨ops⟩ : Array Oper).toList (es1 ++ e :: es2) (fun _ => true) (fO ow) (p + 1 + j) = _ from hrunO j]
      exact this
  · have := h1 t ht
    rwa [show runF (⟨ops⟩ : Array Oper).toList (es1 ++ e :: es2) (fun _ => true) (fF fr) p = fF fr1 from hFp] at this
  · have := h2 k hk
    rwa [show runO (⟨ops⟩ : Array Oper).toList (es1 ++ e :: es2) (fun _ => true) (fO ow) p = fO ow1 from hOp] at this
  · have hk : k < ops.length := by
      have := (List.getElem?_eq_some_iff.1 he').1
      omega
    have := List.all_eq_true.1 hokp k (List.mem_range.2 hk)
    simp only [Bool.or_eq_true] at this
    rcases this with (h3 | h3) | h3
    · exact absurd (Nat.eq_of_beq_eq_true h3) hkp
    · rw [List.getD_eq_getElem?_getD, List.getElem?_map, he'] at h3
      simp only [Option.map_some, Option.getD_some, List.isEmpty_iff, List.map_eq_nil_iff] at h3
      exact absurd h3 hw
    · exact hanc k p h3
  · have hkk : (Array.replicate (⟨ops⟩ : Array Oper).size false).getD p true = !decide (p < (⟨ops⟩ : Array Oper).size) := congrFun hnone p
    rw [hkk, decide_eq_true (show p < (⟨ops⟩ : Array Oper).size from hplt)]
    rfl
  · have hlt : i < (⟨ops⟩ : Array Oper).size := (Array.getElem?_eq_some_iff.1 hi).1
    have hkk : (Array.replicate (⟨ops⟩ : Array Oper).size false).getD i true = !decide (i < (⟨ops⟩ : Array Oper).size) := congrFun hnone i
    rw [hkk, decide_eq_true hlt] at hL
    cases hL
  · rw [show runF (⟨ops⟩ : Array Oper).toList (es1 ++ e :: es2) _ (fF fr) _ = fF fr from e1 _ (Nat.le_refl _), show runO (⟨ops⟩ : Array Oper).toList (es1 ++ e :: es2) _ (fO ow) _ = fO ow from e2 _ (Nat.le_refl _)]
    exact hr.drew
  · rw [hO3]
    obtain ⟨S, r, g1, g2, g3, g4, g5, g6⟩ := hrep
    exact ⟨S, r, g1, g2, fun t => .any .., g4, g5, g6⟩
end
section
variable {X : Ctx} {n : Nat} {all post : List Oper} {fr : Fr} {ow ow0 : Ow} {Q : Exit → Fr → Ow → Prop} {tr : List (List Nat × List Nat)}
variable {t p : Nat} {op : Op} {ty : TypeId} {pos : String} {af : Array Edge} {f : FuncId} {args : List D} {pv : Value}
theorem zpt (p : Nat) {id : Nat} {ops : List Oper} (h : splitOp3 p ops fun pre o post => CT Tryz.prog X n ops pre fr ow [] fun fr1 ow1 tr1 => PanDraw Tryz.prog X n Q ops p ow o post fr1 ow1 tr1) : T Tryz.prog X n (.region id ⟨ops⟩ true) fr ow Q := T.drawP p mixed h
theorem zhT {o1 o1' : Own} (k : Nat) (d : D) (hc : callOf fr op = some (f, args)) (hP : ∀ vs w, (callFunc f vs).run Tryz.prog w = .ok (.enter f vs) w) (hk : look k ow = some o1)
    (hok : (args.map (lendA [k])).all (D.okIn [k]) = true) (hf1 : o1.okIn [k] = true) (hf2 : o1'.okIn [k] = true)
    (hC : CtrP Tryz.prog f (args.map (lendA [k])) [(k, o1)] pv [(k, o1')])
    (h : CT Tryz.prog X n all post ((t, d) :: fr) ((k, o1') :: ow) (tr ++ [([k], [k])]) fun _ _ tr => flowOk all tr = true ∧ okPan p all tr = true ∧ Pnc pv Q [] ((k, o1') :: ow0)) : PanDraw Tryz.prog X n Q all p ow0 ⟨some t, op, ty, pos, af, none⟩ post fr ow tr := by
  refine ⟨rfl, pchain pv, ⟨d, [k], [(k, o1')]⟩, (t, d) :: fr, (k, o1') :: ow, fun F' O' he hO => zeP (o := ⟨some t, op, ty, pos, af, none⟩) (ow := ow) (lo := [(k, o1)]) (lo' := [(k, o1')]) (ids := [k]) hP hc ⟨hk, trivial⟩ rfl rfl (by simp) hok (by simp [hf1]) (by simp [hf2]) hC F' O' he hO, zaF .., zaJ .., ?_⟩
  obtain ⟨es, fr', ow', hch, h1, h2, h3⟩ := h
  refine ⟨es, fr', ow', hch, h1, h2, (k, o1') :: ow0, zaJ .., ?_⟩
  unfold Pnc at h3
  exact h3
end
end Go.Proofs.YtcajofhafpkbdaaGreatDoor.Flow

namespace Go.Proofs.YtcajofhafpkbdaaGreatDoor.Flow
section
variable {P : Program} {X : Ctx} {n : Nat} {o : Oper} {fr : Fr} {ow : Ow} {T : TypeId} {x : Operand} {k1 k2 : IntKind} {a b : Int} {fs : Array Field}
theorem zkH (hT : P.underlying T = some (.struct fs)) (ho : o.op = .makeInterface T x) (hx : ev fr x = .ag [.i k1 a, .i k2 b]) (hd : dstOk o.dst n) :
    ∀ F' O', (∀ y ∈ o.op.operands.toList, evF F' y = evF (fF fr) y) → (∀ j ∈ ([] : List Nat), O' j = fO ow j) → StepAt P X n o F' O' (.v (.iface T (.agg #[.int k1 a, .int k2 b]))) [] := by
  intro F' O' he _
  refine zas hd fun ac w S r hH hI hr => ?_
  have hx' := hr x
  rw [he x (by simp [ho, Op.operands]), zaT, hx] at hx'
  refine ⟨.iface T (.agg #[.int k1 a, .int k2 b]), w, S, r, .inl ?_, .v .., hH, hI, fun _ _ h => h, fun _ _ _ => rfl, RhoLe.refl r⟩
  generalize hv : ac.eval x = v at hx'
  cases hx' with
  | ag _ _ vs hn h =>
    have h0 := h 0 (by simp)
    have h1 := h 1 (by simp)
    have hvs : vs = #[vs.getD 0 undef, vs.getD 1 undef] := by
      obtain ⟨l⟩ := vs
      match l, hn with
      | [p, q], _ => rfl
    generalize vs.getD 0 undef = u0 at *
    generalize vs.getD 1 undef = u1 at *
    subst hvs
    cases h0
    cases h1
    simp [execOp, ho, hv, Instr.makeInterface, run_underlying hT, Result.andThen]
end
section
variable {X : Ctx} {n : Nat} {all rest : List Oper} {fr : Fr} {ow : Ow} {tr : List (List Nat × List Nat)} {K : Fr → Ow → List (List Nat × List Nat) → Prop} {Q : Exit → Fr → Ow → Prop}
variable {t : Nat} {ty T : TypeId} {ps : String} {af : Array Edge} {x : Operand} {k1 k2 : IntKind} {a b : Int} {fs : Array Field} {pv : Value} {tt : TypeId}
set_option maxRecDepth 100000 in
theorem zqA (hT : Tryz.prog.underlying T = some (.struct fs)) (hx : ev fr x = .ag [.i k1 a, .i k2 b]) (hn : Nat.blt t n = true)
    (h : CT Tryz.prog X n all rest ((t, .v (.iface T (.agg #[.int k1 a, .int k2 b]))) :: fr) ow (tr ++ [([], [])]) K) : CT Tryz.prog X n all (⟨some t, .makeInterface T x, ty, ps, af, none⟩ :: rest) fr ow tr K :=
  CT.cons (e := ⟨.v (.iface T (.agg #[.int k1 a, .int k2 b])), [], []⟩) (.plain rfl (zkH (P := Tryz.prog) (X := X) (o := ⟨some t, .makeInterface T x, ty, ps, af, none⟩) hT rfl hx (show t < n from Nat.le_of_ble_eq_true hn))) (zaF ..) rfl h
set_option maxRecDepth 100000 in
theorem zsB {v : Value} (hx : ev fr x = .v (.iface tt v)) (h : Pnc (.iface tt v) Q fr ow) : PanGoal Tryz.prog X n Q ⟨none, .panic x, ty, ps, af, none⟩ fr ow := by
  refine ⟨rfl, pchain (.iface tt v), [], ow, fun ac w K Q' hr hQ => ?_, rfl, ?_⟩
  · have hx' : ac.eval x = .iface tt v := by
      obtain ⟨S, r, hH, _, hF, _⟩ := hr
      have := zce hH.glob hF x
      rw [zaT, hx] at this
      generalize ac.eval x = u at this
      cases this
      rfl
    have hrun : (execOp ac.eval ⟨none, .panic x, ty, ps, af, none⟩).run Tryz.prog w = .halt (.panic (.iface tt v)) w := by
      simp [execOp, hx', Instr.panic]
    exact OW.panic (fun c e => by cases e) hrun (hQ w hr)
  · unfold Pnc at h
    exact h
end
section
variable {n : Nat} {fr : Fr} {ow : Ow} {pv : Value} {f : FuncId} {args : List D}
def EndsP (pv : Value) (lo : Ow) (e : Exit) (_ : Fr) (ow : Ow) : Prop := e = .panic (pchain pv) ∧ leOw ow lo
theorem zjM {pv' : Value} {lo : Ow} (he : pv' = pv) (hlo : leOw ow lo) : Pnc pv' (EndsP pv lo) fr ow := by
  unfold Pnc
  subst he
  exact ⟨rfl, hlo⟩
theorem zeN {fn : Func} {c : Code} {N : Nat} {lo lo' : Ow} {ids : List Nat} (hf : Tryz.prog.funcs[f]? = some fn) (hb : fn.body = some c) (hN : fn.ntmps = N) (hlen : Nat.ble args.length N = true)
    (hi1 : lo.map (·.1) = ids) (hi2 : lo'.map (·.1) = ids) (hcs : lo'.all (fun x => x.2.okIn ids) = true)
    (h : ∀ X : Ctx, Lent X → X.ids = ids → T Tryz.prog X N c (slots 0 args) lo (EndsP pv lo')) : CtrP Tryz.prog f args lo pv lo' :=
  CtrP.of_T hf hb hN (by simpa using hlen) (by rw [hi2]; exact hcs) (hi2.trans hi1.symm) fun X hL hX => h X hL (hX.trans hi1)
end
end Go.Proofs.YtcajofhafpkbdaaGreatDoor.Flow

namespace Go.Proofs.YtcajofhafpkbdaaGreatDoor.Flow
def lentX (w : World) (S : Cells) (r : Rho) (ids : List Nat) : Ctx := { w0 := w, S0 := S, L := fun b => ∃ k ∈ ids, ∃ l, r k = some l ∧ l.block = some b, r0 := keepR r ids, ids := ids }
section
variable {P : Program} {X : Ctx} {n : Nat}
theorem zmc {w : World} {S : Cells} {r : Rho} {O' : Nat → Option Own} {lo : Ow} {ids : List Nat} (hH : Hist X w S) (hI : Inv X w S r O') (hOk : ∀ k o, look k lo = some o → O' k = some o) (hi1 : lo.map (·.1) = ids) (hf1 : lo.all (fun x => x.2.okIn ids) = true) :
    Hist (lentX w S r ids) w S ∧ Inv (lentX w S r ids) w S (keepR r ids) (fO lo) := by
  have hmem : ∀ k, k ∈ ids → ∃ o, look k lo = some o := fun k h => zba (by rw [hi1]; exact h)
  have hin : ∀ k o, look k lo = some o → k ∈ ids ∧ o.okIn ids = true := fun k o h => by
    have h1 := zaL h
    rw [List.all_eq_true] at hf1
    exact ⟨by rw [← hi1]; exact List.mem_map.2 ⟨(k, o), h1, rfl⟩, hf1 _ h1⟩
  have hblt : ∀ k l b, r k = some l → l.block = some b → b < w.heap.size := fun k l b hl hb => by
    cases ho : O' k with
    | none => rw [hI.dom k ho] at hl; cases hl
    | some o => exact (hI.obj k o ho).blockLt hl hb
  have hH' : Hist (lentX w S r ids) w S := ⟨rfl, rfl, rfl, Nat.le_refl _, fun _ _ _ => rfl, fun _ _ h => h, fun _ _ _ => rfl, fun _ _ h => .inl h, hH.valid, hH.glob⟩
  have hI' : Inv (lentX w S r ids) w S (keepR r ids) (fO lo) := by
    refine ⟨fun k o hk' => ?_, fun k hk' => ?_, fun i j l l' b' hij hl hl' hb' => ?_, fun k l b' hl hb' => ?_⟩
    · obtain ⟨h1, h2⟩ := hin k o hk'
      exact (hI.obj k o (hOk k o hk')).okIn h2 (RhoLe.refl _) (if_pos h1)
    · refine if_neg fun hm => ?_
      obtain ⟨o, ho⟩ := hmem k hm
      rw [show fO lo k = look k lo from rfl, ho] at hk'
      cases hk'
    · have hl : keepR r ids i = some l := hl
      have hl' : keepR r ids j = some l' := hl'
      simp only [keepR] at hl hl'
      split at hl <;> first | (cases hl; done) | skip
      split at hl' <;> first | (cases hl'; done) | skip
      exact hI.apart i j l l' b' hij hl hl' hb'
    · have hl : keepR r ids k = some l := hl
      simp only [keepR] at hl
      split at hl <;> first | (cases hl; done) | skip
      rename_i hm
      exact .inr ⟨k, hm, l, hl, hb'⟩
  exact ⟨hH', hI'⟩
theorem znK {w w' : World} {S S' : Cells} {r r' : Rho} {O' : Nat → Option Own} {lo' : Ow} {ids : List Nat} (hH : Hist X w S) (hI : Inv X w S r O') (hi2 : lo'.map (·.1) = ids) (hnd : ids.Nodup) (hf2 : lo'.all (fun x => x.2.okIn ids) = true)
    (g2 : Hist (lentX w S r ids) w' S') (g3 : Inv (lentX w S r ids) w' S' r' (fO lo')) (g4 : RhoLe (keepR r ids) r') : ∃ r2, RhoLe r r2 ∧ RhoLe (keepR r' ids) r2 ∧ Hist X w' S' ∧ Inv X w' S' r2 (updO O' lo') := by
  have hmem' : ∀ k, k ∈ ids → ∃ o, look k lo' = some o := fun k h => zba (by rw [hi2]; exact h)
  have hin' : ∀ k o, look k lo' = some o → k ∈ ids ∧ o.okIn ids = true := fun k o h => by
    have h1 := zaL h
    rw [List.all_eq_true] at hf2
    exact ⟨by rw [← hi2]; exact List.mem_map.2 ⟨(k, o), h1, rfl⟩, hf2 _ h1⟩
  have hblt : ∀ k l b, r k = some l → l.block = some b → b < w.heap.size := fun k l b hl hb => by
    cases ho : O' k with
    | none => rw [hI.dom k ho] at hl; cases hl
    | some o => exact (hI.obj k o ho).blockLt hl hb
  let r2 : Rho := fun k => if k ∈ ids then r' k else r k
  have hr2 : RhoLe r r2 := fun k l hl => by
    by_cases hm : k ∈ ids
    · obtain ⟨l', h1, h2⟩ := g4 k l (by show keepR r ids k = some l; rw [keepR, if_pos hm]; exact hl)
      exact ⟨l', by show (if k ∈ ids then r' k else r k) = some l'; rw [if_pos hm]; exact h1, h2⟩
    · exact ⟨l, by show (if k ∈ ids then r' k else r k) = some l; rw [if_neg hm]; exact hl, LocLe.refl l⟩
  have hr3 : RhoLe (keepR r' ids) r2 := fun k l hl => by
    simp only [keepR] at hl
    split at hl <;> first | (cases hl; done) | skip
    rename_i hm
    exact ⟨l, by show (if k ∈ ids then r' k else r k) = some l; rw [if_pos hm]; exact hl, LocLe.refl l⟩
  have hXL : ∀ b, (lentX w S r ids).L b → X.w0.heap.size ≤ b ∨ X.L b := fun b ⟨k, _, l, hl, hb⟩ => hI.low k l b hl hb
  have hother : ∀ k l b, k ∉ ids → r k = some l → l.block = some b → ¬ (lentX w S r ids).L b := fun k l b hm hl hb ⟨k', hm', l', hl', hb'⟩ =>
    hI.apart k k' l l' b (fun e => hm (e ▸ hm')) hl hl' hb hb'
  refine ⟨r2, hr2, hr3, ?_, ?_⟩
  · refine ⟨g2.os.trans hH.os, g2.tape.trans hH.tape, g2.output.trans hH.output, Nat.le_trans hH.size g2.size, fun k hk' hl => ?_, fun b o hb => g2.sub b o (hH.sub b o hb), fun b o hb => (g2.cell b o (hH.sub b o hb)).trans (hH.cell b o hb), fun b o hb => ?_, g2.valid, g2.glob⟩
    · refine (g2.block k (Nat.lt_of_lt_of_le hk' hH.size) fun hx => ?_).trans (hH.block k hk' hl)
      rcases hXL k hx with h | h
      · omega
      · exact hl h
    · rcases g2.new b o hb with h | h | h
      · exact hH.new b o h
      · exact .inr (.inl (Nat.le_trans hH.size h))
      · rcases hXL b h with h | h
        · exact .inr (.inl h)
        · exact .inr (.inr h)
  · have hnd' : (lo'.map (·.1)).Nodup := by rw [hi2]; exact hnd
    have hup : ∀ k, k ∉ ids → updO O' lo' k = O' k := fun k hm => by
      rw [zaQ hnd', zaY (by rw [hi2]; exact hm)]
    refine ⟨fun k o hk' => ?_, fun k hk' => ?_, fun i j l l' b hij hl hl' hb => ?_, fun k l b hl hb => ?_⟩
    · by_cases hm : k ∈ ids
      · obtain ⟨o', ho'⟩ := hmem' k hm
        rw [zaQ hnd', ho'] at hk'
        obtain rfl : o' = o := Option.some.inj hk'
        exact (g3.obj k o' ho').okIn (hin' k o' ho').2 hr3 (if_pos hm)
      · rw [hup k hm] at hk'
        refine (hI.obj k o hk').keepL g2.sub g2.cell hr2 (if_neg hm) (fun l b hl hb => g2.block b (hblt k l b hl hb) (hother k l b hm hl hb)) (fun b o hs => ?_)
        rcases g2.new b o hs with h | h | h
        · exact .inl h
        · refine .inr fun l hl hb => ?_
          have := hblt k l b hl hb
          have h : w.heap.size ≤ b := h
          omega
        · exact .inr fun l hl hb => hother k l b hm hl hb h
    · by_cases hm : k ∈ ids
      · obtain ⟨o', ho'⟩ := hmem' k hm
        rw [zaQ hnd', ho'] at hk'
        cases hk'
      · rw [hup k hm] at hk'
        exact (if_neg hm).trans (hI.dom k hk')
    · have hl : (if i ∈ ids then r' i else r i) = some l := hl
      have hl' : (if j ∈ ids then r' j else r j) = some l' := hl'
      by_cases h1 : i ∈ ids
      · rw [if_pos h1] at hl
        by_cases h2 : j ∈ ids
        · rw [if_pos h2] at hl'
          exact g3.apart i j l l' b hij hl hl' hb
        · rw [if_neg h2] at hl'
          intro hb'
          rcases g3.low i l b hl hb with h | h
          · have := hblt j l' b hl' hb'
            have h : w.heap.size ≤ b := h
            omega
          · exact hother j l' b h2 hl' hb' h
      · rw [if_neg h1] at hl
        by_cases h2 : j ∈ ids
        · rw [if_pos h2] at hl'
          intro hb'
          rcases g3.low j l' b hl' hb' with h | h
          · have := hblt i l b hl hb
            have h : w.heap.size ≤ b := h
            omega
          · exact hother i l b h1 hl hb h
        · rw [if_neg h2] at hl'
          exact hI.apart i j l l' b hij hl hl' hb
    · have hl : (if k ∈ ids then r' k else r k) = some l := hl
      by_cases h1 : k ∈ ids
      · rw [if_pos h1] at hl
        rcases g3.low k l b hl hb with h | h
        · exact .inl (Nat.le_trans hH.size h)
        · exact hXL b h
      · rw [if_neg h1] at hl
        exact hI.low k l b hl hb
end
def CtrD (P : Program) (f : FuncId) (args : List D) (ow : Ow) (u : FrameMode) (ow' : Ow) (u' : FrameMode) : Prop :=
  ∀ (X : Ctx) (vs : Array Value), X.dfs = [] → X.ids = ow.map (·.1) → Hist X X.w0 X.S0 → Inv X X.w0 X.S0 X.r0 (fO ow) → vs.size = args.length → (∀ j, j < args.length → Rel X.S0 X.w0 X.r0 (args.getD j .any) (vs.getD j undef)) →
    CallsD P f vs u X.w0 fun e u1 w' => (∃ v, e = .returned v) ∧ u1 = u' ∧ ∃ S' r', Hist X w' S' ∧ Inv X w' S' r' (fO ow') ∧ RhoLe X.r0 r'
def TD (P : Program) (X : Ctx) (n : Nat) (c : Code) (fr : Fr) (ow : Ow) (R : Exit → Act → World → Prop) : Prop := ∀ a w, Rep X n (fF fr) (fO ow) a w → c.wp P R a w
def TS (P : Program) (X : Ctx) (n : Nat) (c : Code) (fr : Fr) (ow : Ow) (cs : List Frame) (R : Exit → Act → List Frame → World → Prop) : Prop := ∀ a w, Rep X n (fF fr) (fO ow) a w → c.wpS P R a cs w
section
variable {P : Program} {X : Ctx} {n : Nat} {fr : Fr} {ow : Ow}
theorem TD.out {c : Code} {R : Exit → Act → World → Prop} (h : TD P X n c fr ow R) : ∀ a w, Rep X n (fF fr) (fO ow) a w → c.wp P R a w := h
theorem TD.into {c : Code} {R : Exit → Act → World → Prop} (h : ∀ a w, Rep X n (fF fr) (fO ow) a w → c.wp P R a w) : TD P X n c fr ow R := h
theorem TD.seq {x y : Code} {R : Exit → Act → World → Prop} (h : T P X n x fr ow (thenQ (fun fr ow => TD P X n y fr ow R) (fun e fr ow => ∀ a w, Rep X n (fF fr) (fO ow) a w → R e a w))) : TD P X n (.seq x y) fr ow R := fun a w hr => by
  refine wp_seq (wp_mono (h a w hr).wide fun e a' w' hq => ?_)
  obtain ⟨fr', ow', h1, h2⟩ := hq
  cases e with
  | normal => exact h1 a' w' h2
  | _ => exact h1 a' w' h2
theorem TD.last {c : Code} {R : Exit → Act → World → Prop} (h : T P X n c fr ow (fun e fr ow => ∀ a w, Rep X n (fF fr) (fO ow) a w → R e a w)) : TD P X n c fr ow R := fun a w hr =>
  wp_mono (h a w hr).wide fun _ a' w' ⟨_, _, h1, h2⟩ => h1 a' w' h2
theorem TS.seq {x y : Code} {cs : List Frame} {R : Exit → Act → List Frame → World → Prop} (h : TS P X n x fr ow cs (Exit.thenS (fun a cs w => y.wpS P R a cs w) R)) : TS P X n (.seq x y) fr ow cs R := fun a w hr => wpS_seq (h a w hr)
theorem zfc {ops : Array Oper} {cs : List Frame} {Q : Exit → Act → List Frame → World → Prop} : ∀ {l : List Oper} {k : Nat} {F : Nat → D} {O : Nat → Option Own} {es : List Eff} {F' : Nat → D} {O' : Nat → Option Own},
    Ch P X n ops.toList l F O es F' O' → (∀ j, l[j]? = ops[k + j]?) → (∀ o ∈ l, o.guard = none) → (∀ a w, Rep X n F' O' a w → Q .normal a cs w) → ∀ a w, Rep X n F O a w → wpOpsS P ops Q (List.range' k l.length) a cs w
  | _, k, _, _, _, _, _, .nil F O, _, _, hQ, a, w, hr => by simpa [wpOpsS] using hQ a w hr
  | _, k, _, _, _, _, _, .cons o rest F O e es F' O' h t, hl, hg, hQ, a, w, hr => by
    have h0 : ops[k]? = some o := by simpa using (hl 0).symm
    have hgo : o.guard = none := hg o (by simp)
    rw [List.length_cons, List.range'_succ]
    have hd := h F O (fun _ _ => rfl) (fun _ _ => rfl)
    unfold Does at hd
    simp only [hgo] at hd
    have hw := (hd a w (fun a' w' => wpOpsS P ops Q (List.range' (k + 1) rest.length) a' cs w') (fun e a w => Q e a cs w) hr fun v w' h' =>
      zfc t (fun j => by have := hl (j + 1); simpa [Nat.add_assoc, Nat.add_comm 1 j] using this) (fun o ho => hg o (by simp [ho])) hQ _ w' h').1
    simp only [wpOpsS, h0, Region.wanted, hgo, if_true]
    unfold Oper.wp at hw
    split
    · rename_i w' hrun
      rw [hrun] at hw
      exact hw.elim
    · exact hw
theorem TS.recover {id : Nat} {t : Nat} {ty : TypeId} {pos : String} {af : Array Edge} {rest : List Oper} {cs cs' : List Frame} {v : Value} {R : Exit → Act → List Frame → World → Prop}
    (hn : t < n) (hc : match recoverD cs with | some (v', cs2) => v' = v ∧ cs2 = cs' | none => v = .nilIface ∧ cs' = cs) (hg : rest.all (fun o => o.guard.isNone) = true)
    (h : CT P X n (⟨some t, .call ⟨.builtin .recover, #[], #[]⟩, ty, pos, af, none⟩ :: rest) rest ((t, .v v) :: fr) ow [] fun fr ow _ => ∀ a w, Rep X n (fF fr) (fO ow) a w → R .normal a cs' w) :
    TS P X n (.region id ⟨⟨some t, .call ⟨.builtin .recover, #[], #[]⟩, ty, pos, af, none⟩ :: rest⟩ false) fr ow cs R := fun a w hr => by
  refine wpS_region ?_
  obtain ⟨es, fr', ow', hch, hK⟩ := h
  generalize ho : (⟨some t, .call ⟨.builtin .recover, #[], #[]⟩, ty, pos, af, none⟩ : Oper) = o at *
  have hlen : (⟨o :: rest⟩ : Array Oper).size = rest.length + 1 := rfl
  have h0 : (⟨o :: rest⟩ : Array Oper)[0]? = some o := rfl
  have hgo : o.guard = none := by rw [← ho]
  have hrun : (execOp a.eval o).run P w = .ok .recover w := by
    rw [← ho]
    simp [execOp, resolve, invoke, builtin]
  have hrep : Rep X n (fF ((t, .v v) :: fr)) (fO ow) (a.put o.dst v) w := by
    obtain ⟨S, r, h1, h2, h3, h4, h5, h6⟩ := hr
    rw [zaF, ← ho]
    exact ⟨S, r, h1, h2, zco h3 (show t < a.tmps.size by omega) (.v ..), by rw [zbi]; exact h4, by rw [zbK]; exact h5, h6⟩
  rw [List.range_eq_range', hlen, List.range'_succ]
  simp only [wpOpsS, h0, Region.wanted, hgo, if_true, hrun]
  have next : wpOpsS P ⟨o :: rest⟩ R (List.range' (0 + 1) rest.length) (a.put o.dst v) cs' w := by
    refine zfc (ops := ⟨o :: rest⟩) (k := 0 + 1) hch (fun j => ?_) (fun o2 ho2 => ?_) (fun a w hr => hK a w hr) _ w hrep
    · show rest[j]? = (o :: rest).toArray[0 + 1 + j]?
      rw [List.getElem?_toArray, show 0 + 1 + j = j + 1 by omega, List.getElem?_cons_succ]
    · have := List.all_eq_true.1 hg o2 ho2
      exact Option.isNone_iff_eq_none.1 this
  split
  · rename_i v' cs2 hrec
    rw [hrec] at hc
    obtain ⟨rfl, rfl⟩ := hc
    exact next
  · rename_i hrec
    rw [hrec] at hc
    obtain ⟨rfl, rfl⟩ := hc
    exact next
theorem CtrD.of_TS {f : FuncId} {fn : Func} {c : Code} {N : Nat} {args : List D} {lo lo' : Ow} {u u' : FrameMode} {ids : List Nat} (hf : P.funcs[f]? = some fn) (hb : fn.body = some c) (hN : fn.ntmps = N) (hrs : fn.results = #[]) (hlen : args.length ≤ N)
    (hi1 : lo.map (·.1) = ids) (hi2 : lo'.map (·.1) = ids) (hcs : lo'.all (fun x => x.2.okIn ids) = true)
    (h : ∀ (X : Ctx) (c₀ : Frame) (cs : List Frame), Lent X → X.ids = ids → X.dfs = [] → c₀.mode = u → TS P X N c (slots 0 args) lo (c₀ :: cs) fun e a cs2 w => (e = .normal ∨ e = .ret) ∧ cs2 = { c₀ with mode := u' } :: cs ∧ ∃ fr2 ow2, Rep X N (fF fr2) (fO ow2) a w ∧ leOw ow2 lo') : CtrD P f args lo u lo' u' := by
  intro X vs hdf0 hid hH hI hsz hrel
  have hL : Lent X := fun k hk => by
    rw [hid]
    cases hmem : look k lo with
    | none => exact absurd (hI.dom k hmem) hk
    | some o =>
      by_cases hm : k ∈ lo.map (·.1)
      · exact hm
      · rw [zaY hm] at hmem; cases hmem
  refine callsD_of_wpS hf hb fun c₀ cs hu => ?_
  have hrep : Rep X N (fF (slots 0 args)) (fO lo) { tmps := vs ++ Array.replicate (fn.ntmps - vs.size) undef, defers := [] } X.w0 := by
    refine ⟨X.S0, X.r0, hH, hI, fun t => ?_, hdf0.symm, by simp; omega, RhoLe.refl _⟩
    show Rel _ _ _ (getD' t (slots 0 args)) _
    rw [zbN]
    simp only [Nat.zero_le, if_true, Nat.sub_zero]
    by_cases ht : t < args.length
    · have := hrel t ht
      rw [Array.getD_eq_getD_getElem?, Array.getElem?_append_left (by omega), ← Array.getD_eq_getD_getElem?]
      exact this
    · rw [List.getD_eq_getElem?_getD, List.getElem?_eq_none (by omega)]
      exact .any ..
  have key := h X c₀ cs hL (hid.trans hi1) hdf0 hu _ _ hrep
  have hres : ∀ (tmps : Array Value) (w : World), (results fn tmps).run P w = .ok (.tuple #[]) w := fun tmps w => by
    simp [zbY, hrs]
  intro b k hk hr
  obtain ⟨e, a', cs2, w', ⟨he, hcs2, fr2, ow2, hrep2, hlo⟩, harr⟩ := key b k hk hr
  refine ⟨e, a', cs2, w', ?_, harr⟩
  obtain ⟨S, r, hH2, hI2, hF2, hd2, _, hρ2⟩ := hrep2
  have hfin : ∃ S' r', Hist X w' S' ∧ Inv X w' S' r' (fO lo') ∧ RhoLe X.r0 r' := by
    refine ⟨S, keepR r (lo'.map (·.1)), hH2, hI2.keep hlo (by rw [hi2]; exact hcs), fun k l hk => ?_⟩
    obtain ⟨l', g1, g2⟩ := hρ2 k l hk
    have : k ∈ lo'.map (·.1) := by
      rw [hi2, ← hi1, ← hid]
      exact hL k (by rw [hk]; simp)
    exact ⟨l', by simp only [keepR]; rw [if_pos this]; exact g1, g2⟩
  rcases he with rfl | rfl
  · exact ⟨hd2.trans hdf0, u', hcs2, .tuple #[], hres _ _, ⟨_, rfl⟩, rfl, hfin⟩
  · exact ⟨hd2.trans hdf0, u', hcs2, .tuple #[], hres _ _, ⟨_, rfl⟩, rfl, hfin⟩
structure Put (X X1 : Ctx) (f : FuncId) (ks : List Nat) (vs : Array Value) : Prop where
  w0 : X1.w0 = X.w0
  S0 : X1.S0 = X.S0
  L : X1.L = X.L
  ids : X1.ids = ks
  dfs : X1.dfs = [⟨.fn (.func f) vs, #[]⟩]
  size : vs.size = ks.length
  at' : ∀ j, j < ks.length → ∃ b, X1.r0 (ks.getD j 0) = some (.blk b) ∧ vs.getD j undef = .pointer (some ⟨b, 0, none⟩)
  lent : Lent X1
theorem Hist.of_put {X1 : Ctx} {f : FuncId} {ks : List Nat} {vs : Array Value} (h : Put X X1 f ks vs) {w : World} {S : Cells} (hH : Hist X1 w S) : Hist X w S := by
  obtain ⟨w0, S0, L, r0, ids, dfs⟩ := X1
  have e1 : w0 = X.w0 := h.w0
  have e2 : S0 = X.S0 := h.S0
  have e3 : L = X.L := h.L
  subst e1 e2 e3
  exact ⟨hH.os, hH.tape, hH.output, hH.size, hH.block, hH.sub, hH.cell, hH.new, hH.valid, hH.glob⟩
theorem TD.defer {id t : Nat} {f : FuncId} {ks : List Nat} {xs : List Operand} {ty1 ty2 : TypeId} {p1 p2 : String} {af1 af2 : Array Edge} {rest : Code} {R : Exit → Act → World → Prop}
    (hdf : X.dfs = []) (_hr0 : X.r0 = noRho) (ht : t < n) (hxs : xs.map (ev fr) = ks.map fun k => D.pv k 0)
    (h : ∀ X1 vs, Put X X1 f ks vs → TD P X1 n rest ((t, .fn f (ks.map fun k => .pv k 0)) :: fr) ow R) :
    TD P X n (.seq (.region id ⟨[⟨some t, .makeFunc (.func f) #[] ⟨xs⟩, ty1, p1, af1, none⟩, ⟨none, .defer ⟨.value (.tmp t), #[], #[]⟩, ty2, p2, af2, none⟩]⟩ false) rest) fr ow R := fun a w hr => by
  generalize ho1 : (⟨some t, .makeFunc (.func f) #[] ⟨xs⟩, ty1, p1, af1, none⟩ : Oper) = o1
  generalize ho2 : (⟨none, .defer ⟨.value (.tmp t), #[], #[]⟩, ty2, p2, af2, none⟩ : Oper) = o2
  refine wp_seq (wp_region ?_)
  have hs : step (tb P) (ev fr) (fun k => look k ow) o1 = some ⟨.fn f (ks.map fun k => .pv k 0), True, [], []⟩ := by
    rw [← ho1]
    show fzA (xs.map (ev fr)) (fun l => Stp.pure (.fn f l)) = _
    rw [zdo, hxs]
    rfl
  have hst := zbH (P := P) (X := X) (n := n) hs True.intro (by rw [← ho1]; exact ht) (fF fr) (fO ow) (fun x _ => zaT fr x) (fun _ _ => rfl)
  have hr2 : List.range (⟨[o1, o2]⟩ : Array Oper).size = [0, 1] := rfl
  have h01 : (⟨[o1, o2]⟩ : Array Oper)[0]? = some o1 := rfl
  have h02 : (⟨[o1, o2]⟩ : Array Oper)[1]? = some o2 := rfl
  have hg1 : o1.guard = none := by rw [← ho1]
  have hg2 : o2.guard = none := by rw [← ho2]
  rw [hr2]
  simp only [wpOps, h01, h02, Region.wanted, hg1, hg2, if_true]
  refine .inl (OW.left (hst a w _ _ hr fun v w1 hrep => ?_))
  left
  have hd1 : o1.dst = some t := by rw [← ho1]
  rw [hd1] at hrep ⊢
  obtain ⟨S, r, hH, hI, hF, hdfs, hn, hρ⟩ := hrep
  generalize a.put (some t) v = a1 at *
  have hft := hF t
  rw [show updF (fF fr) (some t) (.fn f (ks.map fun k => .pv k 0)) t = .fn f (ks.map fun k => .pv k 0) by simp [updF]] at hft
  generalize hu : a1.tmps.getD t undef = u at hft
  cases hft with
  | fn _ _ _ vs hvn hvr =>
    have hev : a1.eval (.tmp t) = .func (.func f) #[] vs := hu
    have hrun : (execOp a1.eval o2).run P w1 = .ok (.defer ⟨.fn (.func f) vs, #[]⟩) w1 := by
      rw [← ho2]
      simp [execOp, resolve, hev, Deferred.ofValue]
    unfold Oper.wp
    rw [hrun]
    have hd2 : o2.dst = none := by rw [← ho2]
    show Exit.then (fun a w => rest.wp P R a w) R .normal ({ a1 with defers := ⟨.fn (.func f) vs, #[]⟩ :: a1.defers }.put o2.dst undef) w1
    rw [hd2]
    let X1 : Ctx := { w0 := X.w0, S0 := X.S0, L := X.L, r0 := keepR r ks, ids := ks, dfs := [⟨.fn (.func f) vs, #[]⟩] }
    have hvs : vs.size = ks.length := by simpa using hvn
    have hput : Put X X1 f ks vs := by
      refine ⟨rfl, rfl, rfl, rfl, rfl, hvs, fun j hj => ?_, fun k hk => ?_⟩
      · have h1 := hvr j (by simpa using hj)
        rw [show (ks.map fun k => D.pv k 0).getD j .any = .pv (ks.getD j 0) 0 by simp [List.getD_eq_getElem?_getD, hj]] at h1
        generalize vs.getD j undef = x at h1 ⊢
        cases h1 with
        | pv _ _ _ b hb =>
          refine ⟨b, ?_, rfl⟩
          show keepR r ks (ks.getD j 0) = some (.blk b)
          rw [keepR, if_pos]
          · exact hb
          · rw [List.getD_eq_getElem?_getD, List.getElem?_eq_getElem hj, Option.getD_some]
            exact List.getElem_mem hj
      · have hk : keepR r ks k ≠ none := hk
        show k ∈ ks
        rw [keepR] at hk
        by_cases hm : k ∈ ks
        · exact hm
        · rw [if_neg hm] at hk
          exact absurd rfl hk
    refine h X1 vs hput _ w1 ?_
    refine ⟨S, r, ⟨hH.os, hH.tape, hH.output, hH.size, hH.block, hH.sub, hH.cell, hH.new, hH.valid, hH.glob⟩, ⟨hI.obj, hI.dom, hI.apart, hI.low⟩, fun z => ?_, ?_, hn, fun k l hk => ?_⟩
    · rw [zaF]
      exact hF z
    · show ⟨.fn (.func f) vs, #[]⟩ :: a1.defers = [⟨.fn (.func f) vs, #[]⟩]
      rw [hdfs, hdf]
    · have hk : keepR r ks k = some l := hk
      rw [keepR] at hk
      by_cases hm : k ∈ ks
      · rw [if_pos hm] at hk
        exact ⟨l, hk, LocLe.refl l⟩
      · rw [if_neg hm] at hk
        cases hk
theorem zpn {X1 : Ctx} {f : FuncId} {fn : Func} {ks : List Nat} {vs : Array Value} {lo lo' : Ow} {u u' : FrameMode} {rs : List ResultVar} {d d2 : D} {a : Act} {w : World} (hput : Put X X1 f ks vs)
    (hP : ∀ vs w, (callFunc f vs).run P w = .ok (.enter f vs) w) (hC : CtrD P f (ks.map fun k => .pv k 0) lo u lo' u') (hrun : u ≠ .run) (hset : settle u' = .returning)
    (hk : hasAll (fun k => look k ow) lo) (hi1 : lo.map (·.1) = ks) (hi2 : lo'.map (·.1) = ks) (hnd : ks.Nodup) (hf1 : lo.all (fun x => x.2.okIn ks) = true) (hf2 : lo'.all (fun x => x.2.okIn ks) = true)
    (hrep : Rep X1 n (fF fr) (fO ow) a w) (hrs : fn.results = ⟨rs⟩) {ow2 : Ow} (how : fO ow2 = updO (fO ow) lo') (hres : resD (tb P) fr ow2 rs = some d2) (hw : Weak d2 d) (hd : d.free = true) :
    Leaves P fn a.tmps (fun e w' => ∃ v S', e = .returned v ∧ Rel S' w' noRho d v ∧ Hist X w' S') a.defers u w := by
  obtain ⟨S, r, hH, hI, hF, hdfs, hn, hρ⟩ := hrep
  rw [hdfs, hput.dfs]
  have hOk : ∀ k o, look k lo = some o → fO ow k = some o := fun k o h => zbD hk k o h
  obtain ⟨hH', hI'⟩ := zmc hH hI hOk hi1 hf1
  have hinv : (invoke (.fn (.func f) vs) #[]).run P w = .ok (.enter f vs) w := by
    have := hP vs w
    simpa [invoke] using this
  have hrel : ∀ j, j < (ks.map fun k => D.pv k 0).length → Rel S w (keepR r ks) ((ks.map fun k => D.pv k 0).getD j .any) (vs.getD j undef) := fun j hj => by
    have hj' : j < ks.length := by simpa using hj
    obtain ⟨b, h1, h2⟩ := hput.at' j hj'
    rw [show (ks.map fun k => D.pv k 0).getD j .any = .pv (ks.getD j 0) 0 by simp [List.getD_eq_getElem?_getD, hj'], h2]
    refine .pv _ _ _ b ?_
    obtain ⟨l', g1, g2⟩ := hρ _ _ h1
    have hm : ks.getD j 0 ∈ ks := by
      rw [List.getD_eq_getElem?_getD, List.getElem?_eq_getElem hj', Option.getD_some]
      exact List.getElem_mem hj'
    rw [keepR, if_pos hm]
    cases l' with
    | blk b' =>
      simp only [LocLe] at g2
      subst g2
      exact g1
    | row => simp [LocLe] at g2
  refine leaves_cons hrun hinv ((hC (lentX w S r ks) vs rfl hi1.symm hH' hI' (by simpa using hput.size) hrel).mono ?_)
  rintro e u1 w' ⟨⟨v0, rfl⟩, rfl, S', r', g2, g3, g4⟩
  obtain ⟨r2, q1, q2, q3, q4⟩ := znK hH hI hi2 hnd hf2 g2 g3 g4
  dsimp only
  rw [hset]
  rw [← how] at q4
  obtain ⟨v, hv, hvr⟩ := zdN (P := P) (fn := fn) (a := a) hrs q4 (fun t => (hF t).mono g2.sub g2.cell r2 q1) hres
  exact ⟨v, hv, v, S', rfl, (hvr.weak hw).free hd noRho, q3.of_put hput⟩
end
attribute [irreducible] TD
end Go.Proofs.YtcajofhafpkbdaaGreatDoor.Flow
