/- The texts AO, FlowP, U0, FlowS, FlowW, FlowX, FlowY, FlowZ, one behind the other. -/
import Derived.Test.YtkkaamhocpmhkaaGreatDoorSA8
import Derived.Laws.BitsLemmas
import Derived.Lib.OthersKept
import Derived.MapKept
import Derived.LaidEqlPtr
namespace Go.Proofs.YtkkaamhocpmhkaaGreatDoor.Flow
open Go Go.RowKit
section
variable {H : Type} {enc : TypeId × Value → H} {W : World}
def oct (d : DataW H) : UInt8 := UInt8.ofNat (intOf d).toNat
def octs (d : DataW H) : List UInt8 := (kids d).map oct
theorem zff {t : TypeId} (ht : Tryz.prog.underlying t = some (.int .u8)) : Tells enc W t 1 (fun d => [.i .u8 ((oct d).toNat : Int)]) := fun fuel cs x h => by
  obtain ⟨n, rfl, rfl, hw⟩ := DataW.trod_int ht h
  refine ⟨rfl, rfl, rfl, fun j hj => ?_⟩
  obtain rfl : j = 0 := by omega
  have e1 : IntKind.u8.min ≤ n ∧ n ≤ IntKind.u8.max := by simpa [Lit.wf] using hw
  have e2 : IntKind.u8.min = 0 := by decide
  have e3 : IntKind.u8.max = 255 := by decide
  have e : ((oct (H := H) (.lit (.int .u8 n))).toNat : Int) = n := by
    show ((UInt8.ofNat n.toNat).toNat : Int) = n
    rw [UInt8.toNat_ofNat']
    omega
  dsimp only
  rw [e]
  exact .i _ .u8 n
theorem zfH (l : List (DataW H)) : D.sl 1 l.length (fun i => [D.i .u8 ((oct (l.getD i .nil)).toNat : Int)]) = .sl 1 (l.map oct).length (bytesF (l.map oct)) := by
  rw [List.length_map]
  congr 1
  funext i
  have e0 : oct (DataW.nil : DataW H) = 0 := rfl
  have e : (l.map oct).getD i 0 = oct (l.getD i .nil) := by rw [← e0]; exact zdd oct l .nil i
  unfold bytesF
  rw [e]
set_option maxRecDepth 100000 in
theorem zkv {base : Nat} {v : Value} {d : DataW H} {ps : List MemPlace} (hv : Value.okWide Tryz.prog W .any base 58 v) (h : DataW.Trod enc Tryz.prog W 0 (fun _ => true) true 58 v d ps) :
    Rel (allOf W) W noRho (.sl 1 (octs d).length (bytesF (octs d))) v := by
  have k := zin (enc := enc) Tryz.underlying58 (by kernel_rfl) (by omega) (zff Tryz.underlying5) hv h
  rwa [zfH] at k
theorem zgW {d : DataW H} (h : Rows.uptoBulk d ≤ 1048576) : (octs d).length ≤ 1048576 := by
  have := Nat.le_trans (zeE (kids d)) (zdJ d)
  unfold octs
  rw [List.length_map]
  omega
end
end Go.Proofs.YtkkaamhocpmhkaaGreatDoor.Flow

namespace Go.Proofs.YtkkaamhocpmhkaaGreatDoor.Flow
def lendA (ids : List Nat) : D → D
  | .gs k e n f => match memB k ids with
    | true => .gs k e n f
    | false => .sl e n f
  | d => d
def hasAll (own : Nat → Option Own) : Ow → Prop
  | [] => True
  | (k, o) :: r => own k = some o ∧ hasAll own r
theorem zbw {own : Nat → Option Own} : ∀ {lo : Ow}, hasAll own lo → ∀ k o, look k lo = some o → own k = some o
  | [], _, k, o, h => by simp [look] at h
  | (u, e) :: r, h, k, o, hk => by
    simp only [look] at hk
    cases hb : Nat.beq u k with
    | true =>
      have := Nat.eq_of_beq_eq_true hb
      subst this
      rw [hb] at hk
      cases hk
      exact h.1
    | false =>
      rw [hb] at hk
      exact zbw h.2 k o hk
theorem zaL {α : Type} {k : Nat} {o : α} : ∀ {l : List (Nat × α)}, look k l = some o → (k, o) ∈ l
  | [], h => by simp [look] at h
  | (u, e) :: r, h => by
    simp only [look] at h
    cases hb : Nat.beq u k with
    | true =>
      have := Nat.eq_of_beq_eq_true hb
      subst this
      rw [hb] at h
      cases h
      simp
    | false =>
      rw [hb] at h
      exact List.mem_cons_of_mem _ (zaL h)
theorem zaN {O : Nat → Option Own} : ∀ {l : Ow}, (l.map (·.1)).Nodup → ∀ k, updO O l k = match look k l with
    | some o => some o
    | none => O k
  | [], _, k => rfl
  | (u, e) :: r, hn, k => by
    simp only [List.map_cons, List.nodup_cons] at hn
    simp only [updO, look]
    rw [zaN hn.2 k]
    cases hb : Nat.beq u k with
    | true =>
      have := Nat.eq_of_beq_eq_true hb
      subst this
      rw [zaK hn.1]
      simp
    | false =>
      have hne : k ≠ u := fun e => by subst e; rw [Nat.beq_refl] at hb; cases hb
      cases look k r with
      | some o => rfl
      | none => simp [hne]
theorem ObjOk.keepL {S S' : Cells} {w w' : World} {r r' : Rho} {k : Nat} {o : Own} (h : ObjOk S w r k o) (hS : ∀ b o, S b o → S' b o) (hc : ∀ b o, S b o → w'.cell? ⟨b, o, none⟩ = w.cell? ⟨b, o, none⟩) (hr : RhoLe r r') (hk : r' k = r k)
    (hg : ∀ l b, r k = some l → l.block = some b → w'.heap[b]? = w.heap[b]?) (hn : ∀ b o, S' b o → S b o ∨ ∀ l, r k = some l → l.block ≠ some b) : ObjOk S' w' r' k o := by
  have hmono : ∀ d v, Rel S w r d v → Rel S' w' r' d v := fun d v hd => hd.mono hS hc r' hr
  cases o with
  | var cs =>
    obtain ⟨b, cur, e, h1, h2, h3, h4, h5⟩ := h
    have hb : (Loc.blk b).block = some b := rfl
    refine ⟨b, cur, e, hk.trans h1, ?_, h3, fun j hj => ⟨hmono _ _ (h4 j hj).1, (h4 j hj).2⟩, fun o ho => ?_⟩
    · rw [hg _ _ h1 hb]; exact h2
    · rcases hn b o ho with h6 | h6
      · exact h5 o h6
      · exact h6 _ h1 hb
  | row e esz len =>
    obtain ⟨tv, h1, h2⟩ := h
    refine ⟨tv, hk.trans h1, ?_⟩
    rcases h2 with h2 | ⟨g', cap, cur, rfl, h3, h4, h5, h6, h7⟩
    · exact .inl h2
    · have hb : (Loc.row (.slice (some ⟨g', 0, none⟩) len cap) len).block = some g' := rfl
      refine .inr ⟨g', cap, cur, rfl, ?_, h4, h5, h6, fun o ho hs => ?_⟩
      · rw [hg _ _ h1 hb]; exact h3
      · rcases hn g' o hs with h8 | h8
        · exact h7 o ho h8
        · exact h8 _ h1 hb
  | arr e esz len f =>
    obtain ⟨tv, h1, h2⟩ := h
    refine ⟨tv, hk.trans h1, ?_⟩
    rcases h2 with h2 | ⟨g', cap, cur, rfl, h3, h4, h5, h6, h7, h8, h9⟩
    · exact .inl h2
    · have hb : (Loc.row (.slice (some ⟨g', 0, none⟩) len cap) len).block = some g' := rfl
      refine .inr ⟨g', cap, cur, rfl, ?_, h4, h5, h6, h7, fun i j hi hj => (h8 i j hi hj).mono hS hc noRho (RhoLe.refl _), fun o hs => ?_⟩
      · rw [hg _ _ h1 hb]; exact h3
      · rcases hn g' o hs with h10 | h10
        · exact h9 o h10
        · exact h10 _ h1 hb
  | ob x =>
    obtain ⟨b, h1, h2, h5⟩ := h
    have hb : (Loc.blk b).block = some b := rfl
    refine ⟨b, hk.trans h1, ?_, fun o ho => ?_⟩
    · rw [hg _ _ h1 hb]; exact h2
    · rcases hn b o ho with h6 | h6
      · exact h5 o h6
      · exact h6 _ h1 hb
  | bld T d =>
    obtain ⟨b, cur, e, h1, h2, h3, h4, h7, h5⟩ := h
    have hb : (Loc.blk b).block = some b := rfl
    refine ⟨b, cur, e, hk.trans h1, ?_, h3, h4, ⟨hmono _ _ h7.1, h7.2⟩, fun o ho => ?_⟩
    · rw [hg _ _ h1 hb]; exact h2
    · rcases hn b o ho with h6 | h6
      · exact h5 o h6
      · exact h6 _ h1 hb
  | mp es =>
    obtain ⟨b, arr, clock, h1, h2, h3, h4, h7, h5⟩ := h
    have hb : (Loc.blk b).block = some b := rfl
    refine ⟨b, arr, clock, hk.trans h1, ?_, h3, fun j hj => ⟨(h4 j hj).1, hmono _ _ (h4 j hj).2.1, (h4 j hj).2.2⟩, h7, fun o ho => ?_⟩
    · rw [hg _ _ h1 hb]; exact h2
    · rcases hn b o ho with h6 | h6
      · exact h5 o h6
      · exact h6 _ h1 hb
  | bm e len f =>
    obtain ⟨b, cap, cur, fz, h1, h2, h3, h4, h7, h8, h9, h5⟩ := h
    have hb : (Loc.row (.slice (some ⟨b, 0, none⟩) len cap) len).block = some b := rfl
    refine ⟨b, cap, cur, fz, hk.trans h1, ?_, h3, h4, h7, h8, h9, fun o ho => ?_⟩
    · rw [hg _ _ h1 hb]; exact h2
    · rcases hn b o ho with h6 | h6
      · exact h5 o h6
      · exact h6 _ h1 hb
  | gone =>
    obtain ⟨l, h1, h2⟩ := h
    refine ⟨l, hk.trans h1, fun b hb => ?_⟩
    have h3 := hg l b h1 hb
    rw [Array.getElem?_eq_getElem (h2 b hb)] at h3
    exact (Array.getElem?_eq_some_iff.1 h3).1
theorem ObjOk.okIn {S : Cells} {w : World} {r r' : Rho} {k : Nat} {o : Own} {ks : List Nat} (h : ObjOk S w r k o) (hok : o.okIn ks = true) (hr : RhoLe (keepR r ks) r') (hk : r' k = r k) : ObjOk S w r' k o := by
  cases o with
  | var cs =>
    obtain ⟨b, cur, e, h1, h2, h3, h4, h5⟩ := h
    refine ⟨b, cur, e, hk.trans h1, h2, h3, fun j hj => ⟨((h4 j hj).1.okIn (ks := ks) ?_).mono (fun _ _ h => h) (fun _ _ _ => rfl) r' hr, (h4 j hj).2⟩, h5⟩
    simp only [Own.okIn, List.all_eq_true] at hok
    refine hok _ ?_
    simp only [List.getD_eq_getElem?_getD, List.getElem?_eq_getElem hj, Option.getD_some]
    exact List.getElem_mem hj
  | row e esz len =>
    obtain ⟨tv, h1, h2⟩ := h
    exact ⟨tv, hk.trans h1, h2⟩
  | arr e esz len f =>
    obtain ⟨tv, h1, h2⟩ := h
    exact ⟨tv, hk.trans h1, h2⟩
  | ob x =>
    obtain ⟨b, h1, h2⟩ := h
    exact ⟨b, hk.trans h1, h2⟩
  | bld T d =>
    obtain ⟨b, cur, e, h1, h2, h3, h4, h7, h5⟩ := h
    exact ⟨b, cur, e, hk.trans h1, h2, h3, h4, ⟨(h7.1.okIn (ks := ks) hok).mono (fun _ _ h => h) (fun _ _ _ => rfl) r' hr, h7.2⟩, h5⟩
  | mp es =>
    obtain ⟨b, arr, clock, h1, h2, h3, h4, h7, h5⟩ := h
    refine ⟨b, arr, clock, hk.trans h1, h2, h3, fun j hj => ⟨(h4 j hj).1, ((h4 j hj).2.1.okIn (ks := ks) ?_).mono (fun _ _ h => h) (fun _ _ _ => rfl) r' hr, (h4 j hj).2.2⟩, h7, h5⟩
    simp only [Own.okIn, List.all_eq_true] at hok
    refine hok _ ?_
    simp only [List.getD_eq_getElem?_getD, List.getElem?_eq_getElem hj, Option.getD_some]
    exact List.getElem_mem hj
  | bm e len f =>
    obtain ⟨b, cap, cur, fz, h1, h2⟩ := h
    exact ⟨b, cap, cur, fz, hk.trans h1, h2⟩
  | gone =>
    obtain ⟨l, h1, h2⟩ := h
    exact ⟨l, hk.trans h1, h2⟩
section
variable {P : Program} {X : Ctx} {n : Nat} {fr : Fr} {ow : Ow} {d : D}
theorem zia {o : Oper} {f : FuncId} {args : List D} {lo lo' : Ow} {ids : List Nat} (hP : ∀ vs w, (callFunc f vs).run P w = .ok (.enter f vs) w) (hc : callOf fr o.op = some (f, args)) (hk : hasAll (fun k => look k ow) lo)
    (hi1 : lo.map (·.1) = ids) (hi2 : lo'.map (·.1) = ids) (hnd : ids.Nodup)
    (hok : (args.map (lendA ids)).all (D.okIn ids) = true) (hf1 : lo.all (fun x => x.2.okIn ids) = true) (hf2 : lo'.all (fun x => x.2.okIn ids) = true) (hf3 : d.okIn ids = true)
    (hC : CtrO P f (args.map (lendA ids)) lo d lo') (hd : dstOk o.dst n) :
    ∀ F' O', (∀ x ∈ o.op.operands.toList, evF F' x = evF (fF fr) x) → (∀ j ∈ ids, O' j = fO ow j) → StepAt P X n o F' O' d lo' := by
  intro F' O' he hO a w K' Q' ⟨S, r, hH, hI, hF, hdf, hn, hρ⟩ hK
  obtain ⟨vs, hrun, hsz, hrel⟩ := zcd hP hc he (fun x => zbK hH.glob hF x)
  have hOk : ∀ k o, look k lo = some o → O' k = some o := fun k o h => by
    have hm : k ∈ ids := by rw [← hi1]; exact List.mem_map.2 ⟨(k, o), zaL h, rfl⟩
    exact (hO k hm).trans (zbw hk k o h)
  have hmem : ∀ k, k ∈ ids → ∃ o, look k lo = some o := fun k h => zaT (by rw [hi1]; exact h)
  have hmem' : ∀ k, k ∈ ids → ∃ o, look k lo' = some o := fun k h => zaT (by rw [hi2]; exact h)
  have hin : ∀ k o, look k lo = some o → k ∈ ids ∧ o.okIn ids = true := fun k o h => by
    have h1 := zaL h
    rw [List.all_eq_true] at hf1
    exact ⟨by rw [← hi1]; exact List.mem_map.2 ⟨(k, o), h1, rfl⟩, hf1 _ h1⟩
  have hin' : ∀ k o, look k lo' = some o → k ∈ ids ∧ o.okIn ids = true := fun k o h => by
    have h1 := zaL h
    rw [List.all_eq_true] at hf2
    exact ⟨by rw [← hi2]; exact List.mem_map.2 ⟨(k, o), h1, rfl⟩, hf2 _ h1⟩
  have hblt : ∀ k l b, r k = some l → l.block = some b → b < w.heap.size := fun k l b hl hb => by
    cases ho : O' k with
    | none => rw [hI.dom k ho] at hl; cases hl
    | some o => exact (hI.obj k o ho).blockLt hl hb
  let X' : Ctx := { w0 := w, S0 := S, L := fun b => ∃ k ∈ ids, ∃ l, r k = some l ∧ l.block = some b, r0 := keepR r ids, ids := ids }
  have hH' : Hist X' w S := ⟨rfl, rfl, rfl, Nat.le_refl _, fun _ _ _ => rfl, fun _ _ h => h, fun _ _ _ => rfl, fun _ _ h => .inl h, hH.valid, hH.glob⟩
  have hI' : Inv X' w S X'.r0 (fO lo) := by
    refine ⟨fun k o hk' => ?_, fun k hk' => ?_, fun i j l l' b' hij hl hl' hb' => ?_, fun k l b' hl hb' => ?_⟩
    · obtain ⟨h1, h2⟩ := hin k o hk'
      exact (hI.obj k o (hOk k o hk')).okIn h2 (RhoLe.refl _) (if_pos h1)
    · refine if_neg fun hm => ?_
      obtain ⟨o, ho⟩ := hmem k hm
      rw [show fO lo k = look k lo from rfl, ho] at hk'
      cases hk'
    · have hl : keepR r ids i = some l := hl
      have hl' : keepR r ids j = some l' := hl'
      simp only [keepR] at hl hl'
      split at hl <;> first | (cases hl; done) | skip
      split at hl' <;> first | (cases hl'; done) | skip
      exact hI.apart i j l l' b' hij hl hl' hb'
    · have hl : keepR r ids k = some l := hl
      simp only [keepR] at hl
      split at hl <;> first | (cases hl; done) | skip
      rename_i hm
      exact .inr ⟨k, hm, l, hl, hb'⟩
  have hrel' : ∀ j, j < (args.map (lendA ids)).length → Rel S w X'.r0 ((args.map (lendA ids)).getD j .any) (vs.getD j undef) := by
    intro j hj
    have hj' : j < args.length := by simpa using hj
    have e : (args.map (lendA ids)).getD j .any = lendA ids (args.getD j .any) := by simp [List.getD_eq_getElem?_getD, hj']
    have hokj : (lendA ids (args.getD j .any)).okIn ids = true := by
      rw [← e]
      rw [List.all_eq_true] at hok
      refine hok _ ?_
      simp only [List.getD_eq_getElem?_getD, List.getElem?_eq_getElem hj, Option.getD_some]
      exact List.getElem_mem hj
    rw [e]
    have hr := hrel j hj'
    generalize args.getD j .any = dj at hr hokj
    generalize vs.getD j undef = vj at hr
    refine Rel.okIn (r := r) ?_ hokj
    cases dj with
    | gs k z m g =>
      simp only [lendA]
      split
      · exact hr
      · exact hr.shut
    | _ => exact hr
  refine OW.enter hrun ((hC X' vs hi1.symm hH' hI' (by simpa using hsz) hrel').mono ?_)
  rintro e w' ⟨v, S', r', rfl, g1, g2, g3, g4⟩
  let r2 : Rho := fun k => if k ∈ ids then r' k else r k
  have hr2 : RhoLe r r2 := fun k l hl => by
    by_cases hm : k ∈ ids
    · obtain ⟨l', h1, h2⟩ := g4 k l (by show keepR r ids k = some l; rw [keepR, if_pos hm]; exact hl)
      exact ⟨l', by show (if k ∈ ids then r' k else r k) = some l'; rw [if_pos hm]; exact h1, h2⟩
    · exact ⟨l, by show (if k ∈ ids then r' k else r k) = some l; rw [if_neg hm]; exact hl, LocLe.refl l⟩
  have hr3 : RhoLe (keepR r' ids) r2 := fun k l hl => by
    simp only [keepR] at hl
    split at hl <;> first | (cases hl; done) | skip
    rename_i hm
    exact ⟨l, by show (if k ∈ ids then r' k else r k) = some l; rw [if_pos hm]; exact hl, LocLe.refl l⟩
  have hXL : ∀ b, X'.L b → X.w0.heap.size ≤ b ∨ X.L b := fun b ⟨k, _, l, hl, hb⟩ => hI.low k l b hl hb
  have hother : ∀ k l b, k ∉ ids → r k = some l → l.block = some b → ¬ X'.L b := fun k l b hm hl hb ⟨k', hm', l', hl', hb'⟩ =>
    hI.apart k k' l l' b (fun e => hm (e ▸ hm')) hl hl' hb hb'
  refine hK v w' ⟨S', r2, ?_, ?_, zbO (fun t => (hF t).mono g2.sub g2.cell r2 hr2) (hn ▸ hd) ((g1.okIn hf3).mono (fun _ _ h => h) (fun _ _ _ => rfl) r2 hr3), by rw [zbd]; exact hdf, by rw [zbD]; exact hn, hρ.trans hr2⟩
  · refine ⟨g2.os.trans hH.os, g2.tape.trans hH.tape, g2.output.trans hH.output, Nat.le_trans hH.size g2.size, fun k hk' hl => ?_, fun b o hb => g2.sub b o (hH.sub b o hb), fun b o hb => (g2.cell b o (hH.sub b o hb)).trans (hH.cell b o hb), fun b o hb => ?_, g2.valid, g2.glob⟩
    · refine (g2.block k (Nat.lt_of_lt_of_le hk' hH.size) fun hx => ?_).trans (hH.block k hk' hl)
      rcases hXL k hx with h | h
      · omega
      · exact hl h
    · rcases g2.new b o hb with h | h | h
      · exact hH.new b o h
      · exact .inr (.inl (Nat.le_trans hH.size h))
      · rcases hXL b h with h | h
        · exact .inr (.inl h)
        · exact .inr (.inr h)
  · have hnd' : (lo'.map (·.1)).Nodup := by rw [hi2]; exact hnd
    have hup : ∀ k, k ∉ ids → updO O' lo' k = O' k := fun k hm => by
      rw [zaN hnd', zaK (by rw [hi2]; exact hm)]
    refine ⟨fun k o hk' => ?_, fun k hk' => ?_, fun i j l l' b hij hl hl' hb => ?_, fun k l b hl hb => ?_⟩
    · by_cases hm : k ∈ ids
      · obtain ⟨o', ho'⟩ := hmem' k hm
        rw [zaN hnd', ho'] at hk'
        obtain rfl : o' = o := Option.some.inj hk'
        exact (g3.obj k o' ho').okIn (hin' k o' ho').2 hr3 (if_pos hm)
      · rw [hup k hm] at hk'
        refine (hI.obj k o hk').keepL g2.sub g2.cell hr2 (if_neg hm) (fun l b hl hb => g2.block b (hblt k l b hl hb) (hother k l b hm hl hb)) (fun b o hs => ?_)
        rcases g2.new b o hs with h | h | h
        · exact .inl h
        · refine .inr fun l hl hb => ?_
          have := hblt k l b hl hb
          have h : w.heap.size ≤ b := h
          omega
        · exact .inr fun l hl hb => hother k l b hm hl hb h
    · by_cases hm : k ∈ ids
      · obtain ⟨o', ho'⟩ := hmem' k hm
        rw [zaN hnd', ho'] at hk'
        cases hk'
      · rw [hup k hm] at hk'
        exact (if_neg hm).trans (hI.dom k hk')
    · have hl : (if i ∈ ids then r' i else r i) = some l := hl
      have hl' : (if j ∈ ids then r' j else r j) = some l' := hl'
      by_cases h1 : i ∈ ids
      · rw [if_pos h1] at hl
        by_cases h2 : j ∈ ids
        · rw [if_pos h2] at hl'
          exact g3.apart i j l l' b hij hl hl' hb
        · rw [if_neg h2] at hl'
          intro hb'
          rcases g3.low i l b hl hb with h | h
          · have := hblt j l' b hl' hb'
            have h : w.heap.size ≤ b := h
            omega
          · exact hother j l' b h2 hl' hb' h
      · rw [if_neg h1] at hl
        by_cases h2 : j ∈ ids
        · rw [if_pos h2] at hl'
          intro hb'
          rcases g3.low j l' b hl' hb' with h | h
          · have := hblt i l b hl hb
            have h : w.heap.size ≤ b := h
            omega
          · exact hother i l b h1 hl hb h
        · rw [if_neg h2] at hl'
          exact hI.apart i j l l' b hij hl hl' hb
    · have hl : (if k ∈ ids then r' k else r k) = some l := hl
      by_cases h1 : k ∈ ids
      · rw [if_pos h1] at hl
        rcases g3.low k l b hl hb with h | h
        · exact .inl (Nat.le_trans hH.size h)
        · exact hXL b h
      · rw [if_neg h1] at hl
        exact hI.low k l b hl hb
def resU (B : Tb) (fr : Fr) (ow : Ow) (rs : List ResultVar) : Option D :=
  match rs with
  | [.tmp t] => fz (getD' t fr) some
  | rs => resD B fr ow rs
theorem zcj {ow : Ow} {fr : Fr} {fn : Func} {a : Act} {w : World} {S : Cells} {r : Rho} {d : D} {rs : List ResultVar} (hrs : fn.results = ⟨rs⟩) (hI : Inv X w S r (fO ow)) (hF : ∀ t, Rel S w r (fF fr t) (a.tmps.getD t undef)) (h : resU (tb P) fr ow rs = some d) :
    ∃ v, (results fn a.tmps).run P w = .ok v w ∧ Rel S w r d v := by
  unfold resU at h
  split at h
  · rename_i t
    rw [zbs] at h
    cases h
    refine ⟨a.tmps.getD t undef, ?_, hF t⟩
    have hm : (fn.results.mapM (resF a.tmps)).run P w = .ok #[a.tmps.getD t undef] w := by
      rw [hrs, Array.mapM_eq_mapM_toList]
      have h1 : ([ResultVar.tmp t].mapM (resF a.tmps)).run P w = .ok [a.tmps.getD t undef] w := by
        have h0 : (resF a.tmps (.tmp t)).run P w = .ok (a.tmps.getD t undef) w := rfl
        rw [List.mapM_cons]
        simp only [Sem.run_bind, h0, List.mapM_nil, Result.andThen_ok, Sem.run_pure]
      simp only [Sem.run_map, h1, Result.andThen_ok]
    simp only [zbc, Sem.run_bind, hm, Result.andThen_ok, Sem.run_pure]
    rfl
  · exact zdW hrs hI hF h
variable {ow' : Ow}
theorem CtrO.of_TU {f : FuncId} {fn : Func} {c : Code} {N : Nat} {rs : List ResultVar} {args : List D} {d : D} (hf : P.funcs[f]? = some fn) (hb : fn.body = some c) (hN : fn.ntmps = N) (hrs : fn.results = ⟨rs⟩) (hlen : args.length ≤ N)
    (h : ∀ X : Ctx, Lent X → X.ids = ow.map (·.1) → T P X N c (slots 0 args) ow (fun e fr2 ow2 => (e = .ret ∨ e = .normal) ∧ ∃ d2, resU (tb P) fr2 ow2 rs = some d2 ∧ Weak d2 d ∧ d.okIn (ow'.map (·.1)) = true ∧ Le X fr2 ow2 [] ow')) :
    CtrO P f args ow d ow' := by
  refine CtrO.of0 fun X vs hdf0 hids hH hI hsz hrel => ?_
  have hL : Lent X := fun k hk => by
    rw [hids]
    cases hmem : look k ow with
    | none => exact absurd (hI.dom k hmem) hk
    | some o =>
      by_cases hm : k ∈ ow.map (·.1)
      · exact hm
      · rw [zaK hm] at hmem; cases hmem
  refine calls_of_wp hf hb ?_
  have hrep : Rep X N (fF (slots 0 args)) (fO ow) { tmps := vs ++ Array.replicate (fn.ntmps - vs.size) undef, defers := [] } X.w0 := by
    refine ⟨X.S0, X.r0, hH, hI, fun t => ?_, hdf0.symm, by simp; omega, RhoLe.refl _⟩
    show Rel _ _ _ (getD' t (slots 0 args)) _
    rw [zaZ]
    simp only [Nat.zero_le, if_true, Nat.sub_zero]
    by_cases ht : t < args.length
    · have := hrel t ht
      rw [Array.getD_eq_getD_getElem?, Array.getElem?_append_left (by omega), ← Array.getD_eq_getD_getElem?]
      exact this
    · rw [List.getD_eq_getElem?_getD, List.getElem?_eq_none (by omega)]
      exact .any ..
  refine wp_mono (h X hL hids _ _ hrep).wide fun e a w ⟨fr2, ow2, ⟨he, d2, h1, h2, h3, h4⟩, hrep2⟩ => ?_
  obtain ⟨S, r, hH2, hI2, hF2, hd2, _, hρ2⟩ := hrep2
  obtain ⟨v, hv, hvr⟩ := zcj (P := P) hrs hI2 hF2 h1
  have hok := h4.ok
  simp only [okAll, Bool.and_eq_true] at hok
  have hfin : ∃ v' S' r', Ending.returned v = .returned v' ∧ Rel S' w r' d v' ∧ Hist X w S' ∧ Inv X w S' r' (fO ow') ∧ RhoLe X.r0 r' := by
    refine ⟨v, S, keepR r (ow'.map (·.1)), rfl, ?_, hH2, hI2.keep h4.ow hok.2, fun k l hk => ?_⟩
    · exact (hvr.weak h2).okIn h3
    · obtain ⟨l', g1, g2⟩ := hρ2 k l hk
      have : k ∈ ow'.map (·.1) := h4.ids k (hL k (by rw [hk]; simp))
      exact ⟨l', by simp only [keepR]; rw [if_pos this]; exact g1, g2⟩
  rcases he with rfl | rfl
  · exact ⟨hd2.trans hdf0, v, hv, hfin⟩
  · exact ⟨hd2.trans hdf0, v, hv, hfin⟩
theorem T.adoptV {c : Code} {Q : Exit → Fr → Ow → Prop} (v j k e z : Nat) (cs : List D) (f : Nat → List D) (hv : look v ow = some (.var cs)) (hj : cs.getD j .any = .nilS) (hk : look k ow = none)
    (h : T P X n c fr ((v, .var (cs.set j (.gs k z 0 f))) :: (k, .row e z 0) :: ow) Q) : T P X n c fr ow Q := fun a w hr => by
  refine h a w ?_
  obtain ⟨S, r, hH, hI, hF, hd, hn, hρ⟩ := hr
  have hle : RhoLe r (updR r k (.row (.slice none 0 0) 0)) := RhoLe.new (hI.dom k hk)
  have hk0 : updR r k (.row (.slice none 0 0) 0) k = some (.row (.slice none 0 0) 0) := by simp [updR]
  have hc : Chg w w S none := ⟨rfl, rfl, rfl, Nat.le_refl _, fun _ _ _ => rfl, fun _ _ _ => rfl⟩
  have hI2 : Inv X w S (updR r k (.row (.slice none 0 0) 0)) (fO ((k, .row e z 0) :: ow)) := by
    rw [zaA]
    exact hI.put hc (fun _ _ h => h) hle k _ (.row (.slice none 0 0) 0) ⟨_, hk0, .inl ⟨rfl, rfl⟩⟩ hk0 (fun j hj => by simp [updR, hj]) (fun b hb => by simp [Loc.block] at hb) (fun b hb => by cases hb) (fun _ _ h => .inl h)
  have hvk : v ≠ k := fun e => by subst e; rw [hv] at hk; cases hk
  have hv2 : fO ((k, .row e z 0) :: ow) v = some (.var cs) := by
    rw [zaA]
    show (if v = k then _ else fO ow v) = _
    rw [if_neg hvk]
    exact hv
  have hobj := hI2.obj v _ hv2
  obtain ⟨b, cur, e0, h1, h2, h3, h4, h5⟩ := hobj
  refine ⟨S, updR r k (.row (.slice none 0 0) 0), hH, ?_, fun u => (hF u).mono (fun _ _ h => h) (fun _ _ _ => rfl) _ hle, hd, hn, hρ.trans hle⟩
  rw [zaA]
  refine hI2.put hc (fun _ _ h => h) (RhoLe.refl _) v _ (.blk b) ⟨b, cur, e0, h1, h2, by simpa using h3, fun i hi => ?_, h5⟩ h1 (fun _ _ => rfl) (fun b' hb' => .inr ⟨_, h1, hb'⟩) (fun b hb => by cases hb) (fun _ _ h => .inl h)
  have hi' : i < cs.length := by simpa using hi
  by_cases e : j = i
  · subst e
    have e1 : (cs.set j (D.gs k z 0 f)).getD j .any = .gs k z 0 f := by simp [List.getD_eq_getElem?_getD, hi']
    rw [e1]
    have h6 := (h4 j hi').1
    rw [hj] at h6
    generalize cur.getD j undef = vj at h6 ⊢
    cases h6
    refine ⟨.gs _ k z 0 f _ _ 0 (.sl _ _ _ _ none 0 (fun _ _ => undef) (Nat.le_refl _) (by unfold maxLen; omega) (fun i hi => by omega) (fun i j hi => by omega) (fun i j hi => by omega)) hk0 (Nat.le_refl _) (fun _ => .inl rfl), rfl⟩
  · have e1 : (cs.set j (D.gs k z 0 f)).getD i .any = cs.getD i .any := by simp [List.getD_eq_getElem?_getD, e]
    rw [e1]
    exact h4 i hi'
end
section
variable {X : Ctx} {n : Nat} {all rest : List Oper} {fr : Fr} {ow : Ow} {tr : List (List Nat × List Nat)} {K : Fr → Ow → List (List Nat × List Nat) → Prop} {Q : Exit → Fr → Ow → Prop}
variable {t : Nat} {op : Op} {ty : TypeId} {pos : String} {af : Array Edge} {d : D} {g u : Nat} {want : Bool} {k k2 : Nat} {o1 o2 o1' o2' : Own} {f : FuncId} {args : List D}
structure Stay (p : Prop) : Prop where
  out : p
def EndsM (rs : List ResultVar) (d : D) (lo : Ow) (e : Exit) (fr : Fr) (ow : Ow) : Prop :=
  match e with
  | .ret | .normal => ∃ d2, resU B fr ow rs = some d2 ∧ Weak d2 d ∧ leOw ow lo
  | _ => False
theorem zev {rs : List ResultVar} {d d2 : D} {lo : Ow} (h : resU B fr ow rs = some d2) (he : d2 = d) (hlo : Stay (leOw ow lo)) : Rtn (EndsM rs d lo) fr ow := by
  unfold Rtn
  exact ⟨d2, h, .of_eq he, hlo.out⟩
theorem zls {rs : List ResultVar} {d d2 : D} {lo : Ow} (h : resU B fr ow rs = some d2) (he : d2 = d) (hlo : Stay (leOw ow lo)) : Nrm (EndsM rs d lo) fr ow := by
  unfold Nrm
  exact ⟨d2, h, .of_eq he, hlo.out⟩
end
end Go.Proofs.YtkkaamhocpmhkaaGreatDoor.Flow

namespace Go.Proofs.YtkkaamhocpmhkaaGreatDoor.Flow
open Go
theorem zmb (x : UInt8) (n : Nat) (h : n < 256) : (x.toNat : Int) = n ↔ x = UInt8.ofNat n := by
  constructor
  · intro h1
    have h2 : x.toNat = n := by exact_mod_cast h1
    apply UInt8.toNat.inj
    simp [h2]; omega
  · intro h1
    subst h1
    simp; omega
theorem zdU (l : List UInt8) : bytesOf l.length (bytesF l) = l := by
  apply List.ext_getElem
  · simp [bytesOf]
  · intro n h1 h2
    simp [bytesOf, bytesF, byteOf, h2]
theorem zbj (l : List UInt8) : ∀ i, i < l.length → ∃ n, bytesF l i = [.i .u8 n] := fun _i _ => ⟨_, rfl⟩
theorem zhX (l xs : List UInt8) (g : Nat → List D) (hg : ∀ i, i < xs.length → g i = bytesF xs i) : catF l.length (bytesF l) xs.length g = bytesF (l ++ xs) := by
  funext j
  unfold catF
  by_cases h : j < l.length
  · rw [if_pos h]
    simp [bytesF, List.getD_eq_getElem?_getD, h, List.getElem?_append_left]
  · rw [if_neg h]
    by_cases h2 : j < l.length + xs.length
    · rw [if_pos h2, hg _ (by omega)]
      simp [bytesF, List.getD_eq_getElem?_getD, List.getElem?_append_right (show l.length ≤ j by omega)]
    · rw [if_neg h2]
      simp [bytesF, List.getD_eq_getElem?_getD, List.getElem?_append_right (show l.length ≤ j by omega)]
      rw [List.getElem?_eq_none (show l.length ≤ j by omega), List.getElem?_eq_none (show xs.length ≤ j - l.length by omega)]
theorem zkY (k : Nat) (l xs : List UInt8) (m : Nat) (g : Nat → List D) (hm : m = xs.length) (hg : ∀ i, i < xs.length → g i = bytesF xs i) :
    D.gs k 1 (l.length + m) (catF l.length (bytesF l) m g) = D.gs k 1 (l ++ xs).length (bytesF (l ++ xs)) := by
  subst hm
  rw [zhX l xs g hg]
  simp
theorem zlX (k : Nat) (l : List UInt8) (x : UInt8) (g : Nat → List D) (hg : g 0 = [.i .u8 (x.toNat : Int)]) : D.gs k 1 (l.length + 1) (catF l.length (bytesF l) 1 g) = D.gs k 1 (l ++ [x]).length (bytesF (l ++ [x])) :=
  zkY k l [x] 1 g rfl (fun i hi => by
    have : i = 0 := by simpa using hi
    subst this
    exact hg)
theorem wi6_ (n : Int) : IntKind.i64.wrap n = (n + 9223372036854775808) % 18446744073709551616 - 9223372036854775808 := IntKind.wrap_i64 n
theorem wi3_ (n : Int) : IntKind.i32.wrap n = (n + 2147483648) % 4294967296 - 2147483648 := IntKind.wrap_i32 n
theorem wrap_u8 (n : Int) : IntKind.u8.wrap n = n % 256 := by simp [IntKind.wrap, IntKind.bits, IntKind.signed]
theorem wrap_u32 (n : Int) (h : 0 ≤ n) (h2 : n < 4294967296) : IntKind.u32.wrap n = n := by
  simp [IntKind.wrap, IntKind.bits, IntKind.signed]
  omega

theorem Chg.setObj (w : World) (S : Cells) (b : Nat) (x : Obj) (hS : ∀ o, ¬ S b o) : Chg w { w with heap := w.heap.setIfInBounds b x } S (some b) where
  os := rfl
  tape := rfl
  output := rfl
  size := by simp
  block := fun k _ hne => by
    have : b ≠ k := fun e => hne (by rw [e])
    simp [this]
  cell := fun b' o hb => by
    have : b ≠ b' := fun e => hS o (by rw [e]; exact hb)
    have e : ({ w with heap := w.heap.setIfInBounds b x } : World).heap[b']? = w.heap[b']? := by simp [this]
    exact World.cell?_of_block e
section
variable {P : Program} {X : Ctx} {n : Nat} {O : Nat → Option Own}
theorem zgM {w : World} {S : Cells} {r : Rho} (x : Obj) (hH : Hist X w S) (hI : Inv X w S r O) {k : Nat} (hk : O k = none) :
    ∃ r', Rel S (w.alloc x) r' (.pv k 0) (.pointer (some ⟨w.heap.size, 0, none⟩)) ∧ Hist X (w.alloc x) S ∧ Inv X (w.alloc x) S r' (updO O [(k, .ob x)]) ∧
      (∀ b o, S b o → (w.alloc x).cell? ⟨b, o, none⟩ = w.cell? ⟨b, o, none⟩) ∧ RhoLe r r' := by
  have hc := Chg.alloc w S hH.valid x
  have hr : RhoLe r (updR r k (.blk w.heap.size)) := RhoLe.new (hI.dom k hk)
  have hk0 : updR r k (.blk w.heap.size) k = some (.blk w.heap.size) := by simp [updR]
  refine ⟨updR r k (.blk w.heap.size), .pv _ k 0 _ hk0, ?_, ?_, hc.cell, hr⟩
  · exact hH.chg hc (fun b hb => by cases hb) (fun _ _ h => h) (fun b o h => .inl h)
  · refine hI.put hc (fun _ _ h => h) hr k _ (.blk w.heap.size) ?_ hk0 (fun j hj => by simp [updR, hj]) (fun b hb => ?_) (fun b hb => by cases hb) (fun b o h => .inl h)
    · exact ⟨w.heap.size, hk0, heap_alloc_new w _, fun o ho => by have := hH.valid _ _ ho; omega⟩
    · simp only [Loc.block, Option.some.injEq] at hb
      subst hb
      exact .inl ⟨Nat.le_refl _, .inl hH.size⟩
theorem zcZ {w : World} {S : Cells} {r : Rho} {x : Obj} {b : Nat} (y : Obj) (hH : Hist X w S) (hI : Inv X w S r O) {k : Nat} (hk : O k = some (.ob x)) (hb : r k = some (.blk b)) :
    Hist X { w with heap := w.heap.setIfInBounds b y } S ∧ Inv X { w with heap := w.heap.setIfInBounds b y } S r (updO O [(k, .ob y)]) ∧
      (∀ b' o, S b' o → ({ w with heap := w.heap.setIfInBounds b y } : World).cell? ⟨b', o, none⟩ = w.cell? ⟨b', o, none⟩) := by
  obtain ⟨b', h1, h2, h3⟩ := hI.obj k _ hk
  rw [hb] at h1
  cases h1
  have hc := Chg.setObj w S b y h3
  have hlow := hI.low k _ b hb rfl
  refine ⟨?_, ?_, hc.cell⟩
  · exact hH.chg hc (fun b' hb' => by cases hb'; exact hlow) (fun _ _ h => h) (fun b o h => .inl h)
  · refine hI.put hc (fun _ _ h => h) (RhoLe.refl r) k _ (.blk b) ?_ hb (fun _ _ => rfl) (fun b' hb' => .inr ⟨_, hb, hb'⟩) (fun b' hb' => ⟨_, hb, hb'⟩) (fun b o h => .inl h)
    have hlt := (Array.getElem?_eq_some_iff.1 h2).1
    exact ⟨b, hb, by simp [hlt], h3⟩
variable {o : Oper} {fr : Fr} {ow : Ow} {t k pos : Nat} {ty : TypeId} {x : Operand} {l : List UInt8}
theorem zjx {a b : Int} (hb : 0 < b) (ha : InI a) : InI (a.tdiv b) := by
  have h1 : (a.tdiv b).natAbs = a.natAbs / b.natAbs := Int.natAbs_tdiv a b
  have h2 : a.natAbs / b.natAbs ≤ a.natAbs := Nat.div_le_self _ _
  by_cases h : 0 ≤ a
  · have := Int.tdiv_nonneg h (Int.le_of_lt hb)
    omega
  · have h3 : a.tdiv b ≤ 0 := by
      have e : (-a).tdiv b = -(a.tdiv b) := Int.neg_tdiv a b
      have := Int.tdiv_nonneg (show 0 ≤ -a by omega) (Int.le_of_lt hb)
      omega
    omega
theorem zli {a b : Int} {y : Operand} {ty2 : TypeId} (ho : o.op = .binOp .quo ty x y ty2) (hx : ev fr x = .i .i64 a) (hy : ev fr y = .i .i64 b) (hb : 0 < b) (ha : InI a) (hd : dstOk o.dst n) :
    ∀ F' O', (∀ y ∈ o.op.operands.toList, evF F' y = evF (fF fr) y) → (∀ j ∈ ([] : List Nat), O' j = fO ow j) → StepAt P X n o F' O' (.i .i64 (a.tdiv b)) [] := by
  intro F' O' he _
  refine zap hd fun a' w S r hH hI hr => ?_
  have hx' := hr x
  have hy' := hr y
  rw [he x (by simp [ho, Op.operands]), zaP, hx] at hx'
  rw [he y (by simp [ho, Op.operands]), zaP, hy] at hy'
  have hne : b ≠ 0 := by omega
  refine ⟨.int .i64 (a.tdiv b), w, S, r, .inl ?_, .i .., hH, hI, fun _ _ h => h, fun _ _ _ => rfl, RhoLe.refl r⟩
  generalize hv : a'.eval x = v at hx'
  generalize hu : a'.eval y = u at hy'
  cases hx'
  cases hy'
  have h1 : (do eqGuard .quo ty x y (.int .i64 a) (.int .i64 b); binOp .quo ty (.int .i64 a) (.int .i64 b) : Sem Value).run P w = .ok (.int .i64 (IntKind.i64.wrap (a.tdiv b))) w := by
    have e0 : (eqGuard .quo ty x y (.int .i64 a) (.int .i64 b)) = pure () := rfl
    simp only [e0]
    simp [binOp_quo, Op.intDiv, hne]
  rw [wrapI (zjx hb ha)] at h1
  simp only [execOp, ho, hv, hu, Sem.run_bind] at h1 ⊢
  rw [h1]
  rfl
theorem zla {k : IntKind} {a b : Int} {y : Operand} {ty2 : TypeId} (ho : o.op = .binOp .rem ty x y ty2) (hx : ev fr x = .i k a) (hy : ev fr y = .i k b) (hb : 0 < b) (hd : dstOk o.dst n) :
    ∀ F' O', (∀ y ∈ o.op.operands.toList, evF F' y = evF (fF fr) y) → (∀ j ∈ ([] : List Nat), O' j = fO ow j) → StepAt P X n o F' O' (.i k (a.tmod b)) [] := by
  intro F' O' he _
  refine zap hd fun a' w S r hH hI hr => ?_
  have hx' := hr x
  have hy' := hr y
  rw [he x (by simp [ho, Op.operands]), zaP, hx] at hx'
  rw [he y (by simp [ho, Op.operands]), zaP, hy] at hy'
  have hne : b ≠ 0 := by omega
  refine ⟨.int k (a.tmod b), w, S, r, .inl ?_, .i .., hH, hI, fun _ _ h => h, fun _ _ _ => rfl, RhoLe.refl r⟩
  generalize hv : a'.eval x = v at hx'
  generalize hu : a'.eval y = u at hy'
  cases hx'
  cases hy'
  have h1 : (do eqGuard .rem ty x y (.int k a) (.int k b); binOp .rem ty (.int k a) (.int k b) : Sem Value).run P w = .ok (.int k (a.tmod b)) w := by
    have e0 : (eqGuard .rem ty x y (.int k a) (.int k b)) = pure () := rfl
    simp only [e0]
    simp [binOp_rem, Op.intDiv, hne]
  simp only [execOp, ho, hv, hu, Sem.run_bind] at h1 ⊢
  rw [h1]
  rfl
end
section
variable {X : Ctx} {n : Nat} {all rest : List Oper} {fr : Fr} {ow : Ow} {tr : List (List Nat × List Nat)} {K : Fr → Ow → List (List Nat × List Nat) → Prop}
variable {t k pos : Nat} {ty ty' : TypeId} {ps : String} {af : Array Edge} {x : Operand} {l : List UInt8}
theorem zmz {a b : Int} {y : Operand} {ty2 : TypeId} (hx : ev fr x = .i .i64 a) (hy : ev fr y = .i .i64 b) (hn : Nat.blt t n = true) (hb : 0 < b) (ha : InI a)
    (h : CT Tryz.prog X n all rest ((t, .i .i64 (a.tdiv b)) :: fr) ow (tr ++ [([], [])]) K) : CT Tryz.prog X n all (⟨some t, .binOp .quo ty x y ty2, ty', ps, af, none⟩ :: rest) fr ow tr K :=
  CT.cons (e := ⟨.i .i64 (a.tdiv b), [], []⟩) (.plain rfl (zli (P := Tryz.prog) (X := X) (o := ⟨some t, .binOp .quo ty x y ty2, ty', ps, af, none⟩) rfl hx hy hb ha (Nat.le_of_ble_eq_true hn))) (zaD ..) rfl h
theorem zmK {k : IntKind} {a b : Int} {y : Operand} {ty2 : TypeId} (hx : ev fr x = .i k a) (hy : ev fr y = .i k b) (hn : Nat.blt t n = true) (hb : 0 < b)
    (h : CT Tryz.prog X n all rest ((t, .i k (a.tmod b)) :: fr) ow (tr ++ [([], [])]) K) : CT Tryz.prog X n all (⟨some t, .binOp .rem ty x y ty2, ty', ps, af, none⟩ :: rest) fr ow tr K :=
  CT.cons (e := ⟨.i k (a.tmod b), [], []⟩) (.plain rfl (zla (P := Tryz.prog) (X := X) (o := ⟨some t, .binOp .rem ty x y ty2, ty', ps, af, none⟩) rfl hx hy hb (Nat.le_of_ble_eq_true hn))) (zaD ..) rfl h
end

section
variable {P : Program} {X : Ctx} {n : Nat} {O : Nat → Option Own}
variable {o : Oper} {fr : Fr} {ow : Ow} {t k : Nat} {ty : TypeId} {x : Operand}
end
section
variable {X : Ctx} {n : Nat} {all rest : List Oper} {fr : Fr} {ow : Ow} {tr : List (List Nat × List Nat)} {K : Fr → Ow → List (List Nat × List Nat) → Prop}
variable {t k : Nat} {ty ty' : TypeId} {ps : String} {af : Array Edge} {x : Operand}
end

theorem zep {O : Nat → Option Own} : ∀ {lo : Ow}, hasAll O lo → updO O lo = O
  | [], _ => rfl
  | (k, o) :: r, h => by
    have e : (fun j => if j = k then some o else O j) = O := by
      funext j
      by_cases hj : j = k
      · subst hj
        rw [if_pos rfl]
        exact h.1.symm
      · rw [if_neg hj]
    show updO (fun j => if j = k then some o else O j) r = O
    rw [e]
    exact zep h.2
theorem zcU {O O' : Nat → Option Own} : ∀ {lo : Ow}, hasAll O lo → (∀ j ∈ lo.map (·.1), O' j = O j) → hasAll O' lo
  | [], _, _ => trivial
  | (k, o) :: r, h, hc => ⟨(hc k (by simp)).trans h.1, zcU h.2 fun j hj => hc j (by simp at hj ⊢; exact .inr hj)⟩
theorem zif {P : Program} {X : Ctx} {n : Nat} {fr : Fr} {ow : Ow} {d : D} {o : Oper} {f : FuncId} {args : List D} {lo : Ow} {ids : List Nat} (hP : ∀ vs w, (callFunc f vs).run P w = .ok (.enter f vs) w) (hc : callOf fr o.op = some (f, args)) (hk : hasAll (fun k => look k ow) lo)
    (hi : lo.map (·.1) = ids) (hnd : ids.Nodup) (hok : (args.map (lendA ids)).all (D.okIn ids) = true) (hf1 : lo.all (fun x => x.2.okIn ids) = true) (hf3 : d.okIn ids = true)
    (hC : CtrO P f (args.map (lendA ids)) lo d lo) (hd : dstOk o.dst n) :
    ∀ F' O', (∀ x ∈ o.op.operands.toList, evF F' x = evF (fF fr) x) → (∀ j ∈ ids, O' j = fO ow j) → StepAt P X n o F' O' d [] := by
  intro F' O' he hO
  have h := zia (X := X) (n := n) hP hc hk hi hi hnd hok hf1 hf1 hf3 hC hd F' O' he hO
  have e : updO O' lo = updO O' [] := zep (zcU hk fun j hj => hO j (by rw [← hi]; exact hj))
  unfold StepAt at h ⊢
  rw [e] at h
  exact h
theorem zkC {P : Program} {X : Ctx} {n : Nat} {o : Oper} {fr : Fr} {ow : Ow} {ty : TypeId} {k : Nat} {B' : Tb} {zd : D} (hB : tb P = B') (ho : o.op = .alloc ty) (hz : B'.zr ty = some zd) (hs : zd.solid = true) (h1 : zd.cells.all D.one = true) (hk : look k ow = none) (hd : dstOk o.dst n) :
    ∀ F' O', (∀ y ∈ o.op.operands.toList, evF F' y = evF (fF fr) y) → (∀ j ∈ [k], O' j = fO ow j) → StepAt P X n o F' O' (.pv k 0) [(k, .var zd.cells)] := by
  intro F' O' he hO
  have hz' : zeroD P ty = some zd := by subst hB; exact hz
  obtain ⟨i, zv, g1, g2, g3⟩ := zaW hz'
  refine zap hd fun a w S r hH hI hr => ?_
  have hk' : O' k = none := (hO k (by simp)).trans hk
  have hv := zbf S w r zv
  rw [← g3] at hv
  obtain ⟨S', r', q1, q2, q3, q4, q5, q6⟩ := zfg ty hH hI hv hs h1 hk'
  refine ⟨_, _, S', r', .inl ?_, q1, q2, q3, q4, q5, q6⟩
  simp [execOp, ho, Instr.alloc, zeroValue, typeInfo, g1, g2, newVar, newRow]
section
variable {X : Ctx} {n : Nat} {all rest : List Oper} {fr : Fr} {ow : Ow} {tr : List (List Nat × List Nat)} {K : Fr → Ow → List (List Nat × List Nat) → Prop}
variable {t k : Nat} {op : Op} {ty ty' : TypeId} {ps : String} {af : Array Edge} {d : D} {f : FuncId} {args : List D} {g u : Nat} {want : Bool}
theorem zjp (lo : Ow) (ids : List Nat) (hi : lo.map (·.1) = ids) (hnd : ids.Nodup) (hc : callOf fr op = some (f, args)) (hn : Nat.blt t n = true) (hP : ∀ vs w, (callFunc f vs).run Tryz.prog w = .ok (.enter f vs) w) (hk : hasAll (fun k => look k ow) lo)
    (hok : (args.map (lendA ids)).all (D.okIn ids) = true) (hf1 : lo.all (fun x => x.2.okIn ids) = true) (hf3 : d.okIn ids = true)
    (hC : CtrO Tryz.prog f (args.map (lendA ids)) lo d lo)
    (h : CT Tryz.prog X n all rest ((t, d) :: fr) ow (tr ++ [(ids, [])]) K) : CT Tryz.prog X n all (⟨some t, op, ty, ps, af, none⟩ :: rest) fr ow tr K :=
  CT.cons (e := ⟨d, ids, []⟩) (.plain rfl (zif (o := ⟨some t, op, ty, ps, af, none⟩) (ow := ow) hP hc hk hi hnd hok hf1 hf3 hC (show t < n by simpa using hn))) (zaD ..) rfl h
theorem zmg {zd : D} (k : Nat) (o : Oper) (ho : o.op = .alloc ty) (hg : o.guard = none) (hds : o.dst = some t) (hz : B.zr ty = some zd) (hs : zd.solid = true) (h1 : zd.cells.all D.one = true) (hk : look k ow = none) (hn : Nat.blt t n = true)
    (h : CT Tryz.prog X n all rest ((t, .pv k 0) :: fr) ((k, .var zd.cells) :: ow) (tr ++ [([k], [k])]) K) : CT Tryz.prog X n all (o :: rest) fr ow tr K := by
  have e := zcO
  have h1' := @zkC Tryz.prog X n o fr ow ty k B zd e ho hz hs h1 hk (by rw [hds]; exact Nat.le_of_ble_eq_true hn)
  refine CT.cons (e := ⟨.pv k 0, [k], [(k, .var zd.cells)]⟩) (.plain hg h1') ?_ (zaA ..) h
  rw [hds]
  exact zaD ..
theorem zjJ {zd : D} (k : Nat) (hz : B.zr ty = some zd) (hs : zd.solid = true) (h1 : zd.cells.all D.one = true) (hk : look k ow = none) (hn : Nat.blt t n = true)
    (h : CT Tryz.prog X n all rest ((t, .pv k 0) :: fr) ((k, .var zd.cells) :: ow) (tr ++ [([k], [k])]) K) : CT Tryz.prog X n all (⟨some t, .alloc ty, ty', ps, af, none⟩ :: rest) fr ow tr K := by
  generalize ho : (⟨some t, .alloc ty, ty', ps, af, none⟩ : Oper) = o
  exact zmg k o (by rw [← ho]) (by rw [← ho]) (by rw [← ho]) hz hs h1 hk hn h
end

abbrev Ents := List (List UInt8 × D)
section
variable {P : Program} {X : Ctx} {n : Nat} {O : Nat → Option Own} {w : World} {S : Cells} {r : Rho}
variable {o : Oper} {fr : Fr} {ow : Ow} {t k : Nat} {ty kt et : TypeId} {x y z : Operand} {es : Ents} {key : List UInt8}
end
section
variable {X : Ctx} {n : Nat} {all rest : List Oper} {fr : Fr} {ow : Ow} {tr : List (List Nat × List Nat)} {K : Fr → Ow → List (List Nat × List Nat) → Prop}
variable {t k : Nat} {ty ty' kt et t2 : TypeId} {ps : String} {af : Array Edge} {x y z : Operand} {es : Ents} {key : List UInt8} {d : D} {c : Bool} {g u : Nat} {want : Bool}
end

section
variable {P : Program} {X : Ctx} {n : Nat} {o : Oper} {fr : Fr} {ow : Ow} {k k' : Nat} {ty ty2 : TypeId} {x y : Operand} {cs cs' : List D}
end
section
variable {X : Ctx} {n : Nat} {all rest : List Oper} {fr : Fr} {ow : Ow} {tr : List (List Nat × List Nat)} {K : Fr → Ow → List (List Nat × List Nat) → Prop}
variable {t k : Nat} {ty ty' : TypeId} {ps : String} {af : Array Edge} {x y : Operand} {cs : List D} {d : D} {off : Nat} {z : Nat × Bool}
theorem zjT (hx : ev fr x = .pv k off) (hz : B.sz ty = some z) (hk : look k ow = some (.var cs)) (hd : partD z cs off = d) (hp : partP z cs off) (hn : Nat.blt t n = true)
    (h : CT Tryz.prog X n all rest ((t, d) :: fr) ow (tr ++ [([k], [])]) K) : CT Tryz.prog X n all (⟨some t, .load ty x, ty', ps, af, none⟩ :: rest) fr ow tr K := by
  refine zab (d := d) (p := partP z cs off) (rd := [k]) ?_ hn hp h
  show loadD B (fun k => look k ow) ty (ev fr x) = _
  rw [hx]
  unfold loadD
  rw [hz]
  dsimp only
  rw [hk]
  dsimp only
  rw [zbs, hd]
theorem ziA (hx : ev fr x = .pv k off) (hy : ev fr y = d) (hz : B.sz ty = some z) (hk : look k ow = some (.var cs)) (hl : d.cells.length = z.1) (hfit : off + d.cells.length ≤ cs.length) (hs : d.solid = true) (h1 : d.cells.all D.one = true)
    (h : CT Tryz.prog X n all rest fr ((k, .var (putCells cs off d.cells)) :: ow) (tr ++ [([k], [k])]) K) : CT Tryz.prog X n all (⟨none, .store ty x y, ty', ps, af, none⟩ :: rest) fr ow tr K := by
  refine zax (d := .any) (p := d.cells.length = z.1 ∧ off + d.cells.length ≤ cs.length ∧ d.solid = true ∧ d.cells.all D.one = true) (rd := [k]) ?_ ⟨hl, hfit, hs, h1⟩ h
  show (match ev fr x with
    | .ap .. => storeA B (fun k => look k ow) ty (ev fr x) (ev fr y)
    | _ => storeD B (fun k => look k ow) ty (ev fr x) (ev fr y)) = _
  rw [hx, hy]
  dsimp only
  unfold storeD
  rw [hz]
  dsimp only
  rw [hk]
  dsimp only
  rw [zbs, zbx]
end
section
variable {P : Program} {X : Ctx} {n : Nat} {fr : Fr} {ow : Ow} {d : D}
theorem zhV {o : Oper} {f : FuncId} {args : List D} {lo lo' : Ow} {ids ids2 : List Nat} (hP : ∀ vs w, (callFunc f vs).run P w = .ok (.enter f vs) w) (hc : callOf fr o.op = some (f, args)) (hk : hasAll (fun k => look k ow) lo)
    (hi1 : lo.map (·.1) = ids) (hi2 : lo'.map (·.1) = ids2) (hnd : ids2.Nodup) (hsub : ∀ k ∈ ids, k ∈ ids2) (hnew : ∀ k ∈ ids2, k ∉ ids → look k ow = none)
    (hok : (args.map (lendA ids)).all (D.okIn ids) = true) (hf1 : lo.all (fun x => x.2.okIn ids) = true) (hf2 : lo'.all (fun x => x.2.okIn ids2) = true) (hf3 : d.okIn ids2 = true)
    (hC : CtrO P f (args.map (lendA ids)) lo d lo') (hd : dstOk o.dst n) :
    ∀ F' O', (∀ x ∈ o.op.operands.toList, evF F' x = evF (fF fr) x) → (∀ j ∈ ids2, O' j = fO ow j) → StepAt P X n o F' O' d lo' := by
  intro F' O' he hO a w K' Q' ⟨S, r, hH, hI, hF, hdf, hn, hρ⟩ hK
  obtain ⟨vs, hrun, hsz, hrel⟩ := zcd hP hc he (fun x => zbK hH.glob hF x)
  have hOk : ∀ k o, look k lo = some o → O' k = some o := fun k o h => by
    have hm : k ∈ ids := by rw [← hi1]; exact List.mem_map.2 ⟨(k, o), zaL h, rfl⟩
    exact (hO k (hsub k hm)).trans (zbw hk k o h)
  have hmem : ∀ k, k ∈ ids → ∃ o, look k lo = some o := fun k h => zaT (by rw [hi1]; exact h)
  have hmem' : ∀ k, k ∈ ids2 → ∃ o, look k lo' = some o := fun k h => zaT (by rw [hi2]; exact h)
  have hin : ∀ k o, look k lo = some o → k ∈ ids ∧ o.okIn ids = true := fun k o h => by
    have h1 := zaL h
    rw [List.all_eq_true] at hf1
    exact ⟨by rw [← hi1]; exact List.mem_map.2 ⟨(k, o), h1, rfl⟩, hf1 _ h1⟩
  have hin' : ∀ k o, look k lo' = some o → k ∈ ids2 ∧ o.okIn ids2 = true := fun k o h => by
    have h1 := zaL h
    rw [List.all_eq_true] at hf2
    exact ⟨by rw [← hi2]; exact List.mem_map.2 ⟨(k, o), h1, rfl⟩, hf2 _ h1⟩
  have hblt : ∀ k l b, r k = some l → l.block = some b → b < w.heap.size := fun k l b hl hb => by
    cases ho : O' k with
    | none => rw [hI.dom k ho] at hl; cases hl
    | some o => exact (hI.obj k o ho).blockLt hl hb
  let X' : Ctx := { w0 := w, S0 := S, L := fun b => ∃ k ∈ ids, ∃ l, r k = some l ∧ l.block = some b, r0 := keepR r ids, ids := ids }
  have hH' : Hist X' w S := ⟨rfl, rfl, rfl, Nat.le_refl _, fun _ _ _ => rfl, fun _ _ h => h, fun _ _ _ => rfl, fun _ _ h => .inl h, hH.valid, hH.glob⟩
  have hI' : Inv X' w S X'.r0 (fO lo) := by
    refine ⟨fun k o hk' => ?_, fun k hk' => ?_, fun i j l l' b' hij hl hl' hb' => ?_, fun k l b' hl hb' => ?_⟩
    · obtain ⟨h1, h2⟩ := hin k o hk'
      exact (hI.obj k o (hOk k o hk')).okIn h2 (RhoLe.refl _) (if_pos h1)
    · refine if_neg fun hm => ?_
      obtain ⟨o, ho⟩ := hmem k hm
      rw [show fO lo k = look k lo from rfl, ho] at hk'
      cases hk'
    · have hl : keepR r ids i = some l := hl
      have hl' : keepR r ids j = some l' := hl'
      simp only [keepR] at hl hl'
      split at hl <;> first | (cases hl; done) | skip
      split at hl' <;> first | (cases hl'; done) | skip
      exact hI.apart i j l l' b' hij hl hl' hb'
    · have hl : keepR r ids k = some l := hl
      simp only [keepR] at hl
      split at hl <;> first | (cases hl; done) | skip
      rename_i hm
      exact .inr ⟨k, hm, l, hl, hb'⟩
  have hrel' : ∀ j, j < (args.map (lendA ids)).length → Rel S w X'.r0 ((args.map (lendA ids)).getD j .any) (vs.getD j undef) := by
    intro j hj
    have hj' : j < args.length := by simpa using hj
    have e : (args.map (lendA ids)).getD j .any = lendA ids (args.getD j .any) := by simp [List.getD_eq_getElem?_getD, hj']
    have hokj : (lendA ids (args.getD j .any)).okIn ids = true := by
      rw [← e]
      rw [List.all_eq_true] at hok
      refine hok _ ?_
      simp only [List.getD_eq_getElem?_getD, List.getElem?_eq_getElem hj, Option.getD_some]
      exact List.getElem_mem hj
    rw [e]
    have hr := hrel j hj'
    generalize args.getD j .any = dj at hr hokj
    generalize vs.getD j undef = vj at hr
    refine Rel.okIn (r := r) ?_ hokj
    cases dj with
    | gs k z m g =>
      simp only [lendA]
      split
      · exact hr
      · exact hr.shut
    | _ => exact hr
  refine OW.enter hrun ((hC X' vs hi1.symm hH' hI' (by simpa using hsz) hrel').mono ?_)
  rintro e w' ⟨v, S', r', rfl, g1, g2, g3, g4⟩
  let r2 : Rho := fun k => if k ∈ ids2 then r' k else r k
  have hr2 : RhoLe r r2 := fun k l hl => by
    by_cases hm : k ∈ ids2
    · have hm0 : k ∈ ids := by
        rcases Classical.em (k ∈ ids) with h | h
        · exact h
        · have h0 : O' k = none := (hO k hm).trans (hnew k hm h)
          rw [hI.dom k h0] at hl
          cases hl
      obtain ⟨l', h1, h2⟩ := g4 k l (by show keepR r ids k = some l; rw [keepR, if_pos hm0]; exact hl)
      exact ⟨l', by show (if k ∈ ids2 then r' k else r k) = some l'; rw [if_pos hm]; exact h1, h2⟩
    · exact ⟨l, by show (if k ∈ ids2 then r' k else r k) = some l; rw [if_neg hm]; exact hl, LocLe.refl l⟩
  have hr3 : RhoLe (keepR r' ids2) r2 := fun k l hl => by
    simp only [keepR] at hl
    split at hl <;> first | (cases hl; done) | skip
    rename_i hm
    exact ⟨l, by show (if k ∈ ids2 then r' k else r k) = some l; rw [if_pos hm]; exact hl, LocLe.refl l⟩
  have hXL : ∀ b, X'.L b → X.w0.heap.size ≤ b ∨ X.L b := fun b ⟨k, _, l, hl, hb⟩ => hI.low k l b hl hb
  have hother : ∀ k l b, k ∉ ids2 → r k = some l → l.block = some b → ¬ X'.L b := fun k l b hm hl hb ⟨k', hm', l', hl', hb'⟩ =>
    hI.apart k k' l l' b (fun e => hm (e ▸ hsub k' hm')) hl hl' hb hb'
  refine hK v w' ⟨S', r2, ?_, ?_, zbO (fun t => (hF t).mono g2.sub g2.cell r2 hr2) (hn ▸ hd) ((g1.okIn hf3).mono (fun _ _ h => h) (fun _ _ _ => rfl) r2 hr3), by rw [zbd]; exact hdf, by rw [zbD]; exact hn, hρ.trans hr2⟩
  · refine ⟨g2.os.trans hH.os, g2.tape.trans hH.tape, g2.output.trans hH.output, Nat.le_trans hH.size g2.size, fun k hk' hl => ?_, fun b o hb => g2.sub b o (hH.sub b o hb), fun b o hb => (g2.cell b o (hH.sub b o hb)).trans (hH.cell b o hb), fun b o hb => ?_, g2.valid, g2.glob⟩
    · refine (g2.block k (Nat.lt_of_lt_of_le hk' hH.size) fun hx => ?_).trans (hH.block k hk' hl)
      rcases hXL k hx with h | h
      · omega
      · exact hl h
    · rcases g2.new b o hb with h | h | h
      · exact hH.new b o h
      · exact .inr (.inl (Nat.le_trans hH.size h))
      · rcases hXL b h with h | h
        · exact .inr (.inl h)
        · exact .inr (.inr h)
  · have hnd' : (lo'.map (·.1)).Nodup := by rw [hi2]; exact hnd
    have hup : ∀ k, k ∉ ids2 → updO O' lo' k = O' k := fun k hm => by
      rw [zaN hnd', zaK (by rw [hi2]; exact hm)]
    refine ⟨fun k o hk' => ?_, fun k hk' => ?_, fun i j l l' b hij hl hl' hb => ?_, fun k l b hl hb => ?_⟩
    · by_cases hm : k ∈ ids2
      · obtain ⟨o', ho'⟩ := hmem' k hm
        rw [zaN hnd', ho'] at hk'
        obtain rfl : o' = o := Option.some.inj hk'
        exact (g3.obj k o' ho').okIn (hin' k o' ho').2 hr3 (if_pos hm)
      · rw [hup k hm] at hk'
        refine (hI.obj k o hk').keepL g2.sub g2.cell hr2 (if_neg hm) (fun l b hl hb => g2.block b (hblt k l b hl hb) (hother k l b hm hl hb)) (fun b o hs => ?_)
        rcases g2.new b o hs with h | h | h
        · exact .inl h
        · refine .inr fun l hl hb => ?_
          have := hblt k l b hl hb
          have h : w.heap.size ≤ b := h
          omega
        · exact .inr fun l hl hb => hother k l b hm hl hb h
    · by_cases hm : k ∈ ids2
      · obtain ⟨o', ho'⟩ := hmem' k hm
        rw [zaN hnd', ho'] at hk'
        cases hk'
      · rw [hup k hm] at hk'
        exact (if_neg hm).trans (hI.dom k hk')
    · have hl : (if i ∈ ids2 then r' i else r i) = some l := hl
      have hl' : (if j ∈ ids2 then r' j else r j) = some l' := hl'
      by_cases h1 : i ∈ ids2
      · rw [if_pos h1] at hl
        by_cases h2 : j ∈ ids2
        · rw [if_pos h2] at hl'
          exact g3.apart i j l l' b hij hl hl' hb
        · rw [if_neg h2] at hl'
          intro hb'
          rcases g3.low i l b hl hb with h | h
          · have := hblt j l' b hl' hb'
            have h : w.heap.size ≤ b := h
            omega
          · exact hother j l' b h2 hl' hb' h
      · rw [if_neg h1] at hl
        by_cases h2 : j ∈ ids2
        · rw [if_pos h2] at hl'
          intro hb'
          rcases g3.low j l' b hl' hb' with h | h
          · have := hblt i l b hl hb
            have h : w.heap.size ≤ b := h
            omega
          · exact hother i l b h1 hl hb h
        · rw [if_neg h2] at hl'
          exact hI.apart i j l l' b hij hl hl' hb
    · have hl : (if k ∈ ids2 then r' k else r k) = some l := hl
      by_cases h1 : k ∈ ids2
      · rw [if_pos h1] at hl
        rcases g3.low k l b hl hb with h | h
        · exact .inl (Nat.le_trans hH.size h)
        · exact hXL b h
      · rw [if_neg h1] at hl
        exact hI.low k l b hl hb
end
theorem zgS {α : Type} {k : Nat} : ∀ {a b : List (Nat × α)}, look k (a ++ b) = match look k a with
    | some o => some o
    | none => look k b
  | [], b => rfl
  | (u, e) :: a, b => by
    simp only [List.cons_append, look]
    cases Nat.beq u k with
    | true => rfl
    | false => exact zgS
theorem ziB {lo ow : Ow} (hnd : (lo.map (·.1)).Nodup) : fO (lo ++ ow) = updO (fO ow) lo := by
  funext k
  rw [zaN hnd]
  show look k (lo ++ ow) = _
  rw [zgS]
  cases look k lo <;> rfl
section
variable {X : Ctx} {n : Nat} {all rest : List Oper} {fr : Fr} {ow : Ow} {tr : List (List Nat × List Nat)} {K : Fr → Ow → List (List Nat × List Nat) → Prop}
variable {t k k' : Nat} {op : Op} {ty ty2 ty' : TypeId} {ps : String} {af : Array Edge} {x y : Operand} {cs cs' : List D} {d : D} {f : FuncId} {args : List D} {g u : Nat} {want : Bool}
theorem zby (lo lo' : Ow) (ids ids2 : List Nat) (hi1 : lo.map (·.1) = ids) (hi2 : lo'.map (·.1) = ids2) (hnd : ids2.Nodup) (hsub : ∀ k ∈ ids, k ∈ ids2) (hnew : ∀ k ∈ ids2, k ∉ ids → look k ow = none)
    (hc : callOf fr op = some (f, args)) (hn : Nat.blt t n = true) (hP : ∀ vs w, (callFunc f vs).run Tryz.prog w = .ok (.enter f vs) w) (hk : hasAll (fun k => look k ow) lo)
    (hok : (args.map (lendA ids)).all (D.okIn ids) = true) (hf1 : lo.all (fun x => x.2.okIn ids) = true) (hf2 : lo'.all (fun x => x.2.okIn ids2) = true) (hf3 : d.okIn ids2 = true)
    (hC : CtrO Tryz.prog f (args.map (lendA ids)) lo d lo')
    (h : CT Tryz.prog X n all rest ((t, d) :: fr) (lo' ++ ow) (tr ++ [(ids2, lo'.map (·.1))]) K) : CT Tryz.prog X n all (⟨some t, op, ty, ps, af, none⟩ :: rest) fr ow tr K :=
  CT.cons (e := ⟨d, ids2, lo'⟩) (.plain rfl (zhV (o := ⟨some t, op, ty, ps, af, none⟩) (ow := ow) hP hc hk hi1 hi2 hnd hsub hnew hok hf1 hf2 hf3 hC (show t < n by simpa using hn))) (zaD ..) (ziB (by rw [hi2]; exact hnd)) h
end
end Go.Proofs.YtkkaamhocpmhkaaGreatDoor.Flow
