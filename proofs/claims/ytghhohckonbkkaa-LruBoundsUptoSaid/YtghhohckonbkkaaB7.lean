/- The texts L11, one behind the other. -/
import Derived.Test.YtghhohckonbkkaaB6
/- LRU: the law of the bounds. -/
namespace Go.Proofs.Ytghhohckonbkkaa.Flow
open Go

/-- What holds ahead of a round of the law's loop. -/
structure BndI (l : List ActV) (E0 S0 : Int) (i : Nat) (g : Rg) (la : List Ent) (h m : Int) (P : Prs) : Prop where
  H : Holds g la (max E0 0) (max S0 0) h m
  il : i ≤ l.length
  hh : 0 ≤ h ∧ h ≤ i
  hm : 0 ≤ m ∧ m ≤ i
  sum : sumL la ≤ sumA (l.take i)
  fit : (la.length : Int) ≤ max E0 0 ∧ (sumL la : Int) ≤ max S0 0
  last : LastOk P la
  pl : P.length ≤ i

abbrev lastO (P : Prs) : Nat × Own := (20, .arr 9 1 (flatP P).length (kyF (flatP P)))
abbrev bndF (l : List ActV) (E0 S0 : Int) (i : Nat) (P : Prs) : Fr := [(0, .i .i64 E0), (1, .i .i64 S0), (2, .sl 3 l.length (actF l)), (7, .pv 9000 0), (8, .ah 20 1 (flatP P).length), (9, .i .i64 i)]

theorem le_arr {ow : Ow} {L L2 : Nat} {f f2 : Nat → List D} (h : look 20 ow = some (.arr 9 1 L2 f2)) (hL : L2 = L) (hf : ∀ i, i < L → f2 i = f i) : leOw ow [(20, .arr 9 1 L f)] :=
  ⟨⟨L2, f2, h, hL, fun i hi => .inl (hf i hi)⟩, trivial⟩

theorem okAll_b {own : Ow} {fr : Fr} {g : Rg} {ks : List Nat} (hw : Wf0 g) (hk : ∀ k, memB k ks = true → memB k (9000 :: own.map (·.1)) = true) (h : okAll ks fr own = true) : okAll ((own ++ objs g).map (·.1)) fr (own ++ objs g) = true :=
  okAll_C hw (fun k hk' => by
    have := memB_spec (hk k hk')
    rcases List.mem_cons.1 this with rfl | h
    · exact .inr (by simp [idsG])
    · exact .inl h) h

theorem get_some {g : Rg} {l : List Ent} {E M h m : Int} {v : D} {k : List UInt8} (H : Holds g l E M h m) (hg : getL l k = some v) (hh : 0 ≤ h ∧ h ≤ 1000000) (hm : 0 ≤ m ∧ m ≤ 1000000) :
    ∃ g', CtrO Try.prog 10 [.pv 9000 0, .s k] (objs g) (.tu [v, .b true]) (objs g') ∧ Holds g' (getR l k) E M (h + 1) m ∧ g.n ≤ g'.n ∧ (D.tu [v, .b true]).okIn (idsG g'.n) = true := by
  obtain ⟨g', c, H', n, o⟩ := get_all H k hh hm
  have e : gotL l k = .tu [v, .b true] := by unfold gotL; rw [hg]
  rw [e] at c o
  rw [hg] at H'
  exact ⟨g', c, H', n, o⟩
theorem get_none {g : Rg} {l : List Ent} {E M h m : Int} {k : List UInt8} (H : Holds g l E M h m) (hg : getL l k = none) (hh : 0 ≤ h ∧ h ≤ 1000000) (hm : 0 ≤ m ∧ m ≤ 1000000) :
    ∃ g', CtrO Try.prog 10 [.pv 9000 0, .s k] (objs g) (.tu [.nilS, .b false]) (objs g') ∧ Holds g' (getR l k) E M h (m + 1) ∧ g.n ≤ g'.n := by
  obtain ⟨g', c, H', n, o⟩ := get_all H k hh hm
  have e : gotL l k = .tu [.nilS, .b false] := by unfold gotL; rw [hg]
  rw [e] at c
  rw [hg] at H'
  exact ⟨g', c, H', n⟩
theorem put_t {g : Rg} {l : List Ent} {E M h m : Int} (H : Holds g l E M h m) (k : List UInt8) (d : D) (hd : isB d) (hb : sumL l + (k.length + lenOf d) ≤ 1000000) (hE : 0 ≤ E) (hM : 0 ≤ M) (hp : putB E M k d = true) :
    ∃ g', CtrO Try.prog 9 [.pv 9000 0, .s k, d] (objs g) (.b true) (objs g') ∧ Holds g' (putL E M l k d) E M h m ∧ g.n ≤ g'.n := by
  obtain ⟨g', c, H', n⟩ := put_all H k d hd hb hE hM
  have e : putR E M l k d = putL E M l k d := by unfold putR; rw [hp]
  rw [hp] at c
  rw [e] at H'
  exact ⟨g', c, H', n⟩
theorem put_f {g : Rg} {l : List Ent} {E M h m : Int} (H : Holds g l E M h m) (k : List UInt8) (d : D) (hd : isB d) (hb : sumL l + (k.length + lenOf d) ≤ 1000000) (hE : 0 ≤ E) (hM : 0 ≤ M) (hp : putB E M k d = false) :
    ∃ g', CtrO Try.prog 9 [.pv 9000 0, .s k, d] (objs g) (.b false) (objs g') ∧ Holds g' l E M h m ∧ g.n ≤ g'.n := by
  obtain ⟨g', c, H', n⟩ := put_all H k d hd hb hE hM
  have e : putR E M l k d = l := by unfold putR; rw [hp]
  rw [hp] at c
  rw [e] at H'
  exact ⟨g', c, H', n⟩
theorem putL_sum (E M : Int) (l : List Ent) (k : List UInt8) (d : D) : sumL (putL E M l k d) ≤ sumL l + (k.length + lenOf d) := by
  have h1 := evL_len E M ((k, d) :: woL l k).length ((k, d) :: woL l k)
  have h2 := (wo_sum l k).1
  have h3 : sumL ((k, d) :: woL l k) = k.length + lenOf d + sumL (woL l k) := by simp [sumL, esz]
  unfold putL
  omega

set_option maxRecDepth 100000 in
set_option maxHeartbeats 8000000 in
theorem lruBounds_ctr (E0 S0 : Int) (l : List ActV) (hl : ActsOk l) (hE0 : -9223372036854775808 ≤ E0 ∧ E0 < 9223372036854775808) (hS0 : -9223372036854775808 ≤ S0 ∧ S0 < 9223372036854775808) :
    Ctr Try.prog 3 [.i .i64 E0, .i .i64 S0, .sl 3 l.length (actF l)] (.b true) := by
  have hmu := much_ctr l hl
  refine r_fun Try.func3 rfl Try.ntmps3 Try.results3 rfl rfl fun X hL hX => ?_
  cases hm : muchB l with
  | true =>
    rw [hm] at hmu
    repeat' (first
      | refine r_call (f := 6) rfl rfl Try.call6 rfl hmu ?_ | refine r_call (f := 7) rfl rfl Try.call7 rfl live_ctr ?_
      | with_reducible refine t_seq ?_ | with_reducible refine t_region ?_ | with_reducible refine c_nil ?_ | with_reducible refine n_then ?_
      | with_reducible refine t_ret ?_ | with_reducible refine t_skip ?_ | with_reducible refine t_exit ?_ | with_reducible refine t_block ?_
      | with_reducible refine n_block ?_ | with_reducible refine e_then ?_ | with_reducible refine x_then ?_ | with_reducible refine x_block ?_ | with_reducible refine t_draw ?_
      | refine r_val rfl rfl True.intro ?_ | refine r_gskip rfl rfl rfl ?_ | refine r_gskip2 rfl rfl rfl ?_ | refine r_gval rfl rfl rfl rfl True.intro ?_
      | refine t_true rfl ?_ | refine t_false rfl ?_
      | ((first | refine t_cond_d rfl (fun _ => ?_) (fun _ => ?_) | refine t_cond_i rfl (fun _ => ?_) (fun _ => ?_) | refine t_cond_j rfl (fun _ => ?_) (fun _ => ?_) | refine t_cond_s rfl (fun _ => ?_) (fun _ => ?_) | refine t_cond_n rfl (fun _ => ?_) (fun _ => ?_) | refine t_cond rfl (fun _ => ?_) (fun _ => ?_) | refine c_split_d rfl rfl (fun _ => ?_) (fun _ => ?_) | refine c_split_i rfl rfl (fun _ => ?_) (fun _ => ?_) | refine c_split_j rfl rfl (fun _ => ?_) (fun _ => ?_) | refine c_split_s rfl rfl (fun _ => ?_) (fun _ => ?_) | refine c_split_n rfl rfl (fun _ => ?_) (fun _ => ?_)) <;> try (first | contradiction | (exfalso; omega)))
      | refine r_val rfl rfl (by (first | omega | exact Nat.le_of_ble_eq_true rfl | (simp_all; done) | (simp_all; omega) | ((repeat' refine And.intro ?_ ?_) <;> first | omega | rfl | exact Nat.le_refl _ | exact Nat.le_of_ble_eq_true rfl | exact bytesF_one _ | (simp_all; done) | (simp_all; omega)))) ?_ | refine r_gval rfl rfl rfl rfl (by (first | omega | exact Nat.le_of_ble_eq_true rfl | (simp_all; done) | (simp_all; omega) | ((repeat' refine And.intro ?_ ?_) <;> first | omega | rfl | exact Nat.le_refl _ | exact Nat.le_of_ble_eq_true rfl | exact bytesF_one _ | (simp_all; done) | (simp_all; omega)))) ?_
      | refine r_obj rfl rfl (by (first | omega | exact Nat.le_of_ble_eq_true rfl | (simp_all; done) | (simp_all; omega) | ((repeat' refine And.intro ?_ ?_) <;> first | omega | rfl | exact Nat.le_refl _ | exact Nat.le_of_ble_eq_true rfl | exact bytesF_one _ | (simp_all; done) | (simp_all; omega)))) ?_ | refine r_sto rfl (by (first | omega | exact Nat.le_of_ble_eq_true rfl | (simp_all; done) | (simp_all; omega) | ((repeat' refine And.intro ?_ ?_) <;> first | omega | rfl | exact Nat.le_refl _ | exact Nat.le_of_ble_eq_true rfl | exact bytesF_one _ | (simp_all; done) | (simp_all; omega)))) ?_ | refine r_gobj rfl rfl rfl rfl (by (first | omega | exact Nat.le_of_ble_eq_true rfl | (simp_all; done) | (simp_all; omega) | ((repeat' refine And.intro ?_ ?_) <;> first | omega | rfl | exact Nat.le_refl _ | exact Nat.le_of_ble_eq_true rfl | exact bytesF_one _ | (simp_all; done) | (simp_all; omega)))) ?_
      | refine e_hit rfl ?_ | refine e_miss rfl ?_
      | refine ⟨by kernel_rfl, ?_⟩ | refine x_end rfl rfl | refine n_end rfl rfl | ((with_reducible refine c_grd ?_); (fail_if_success (refine c_lit true rfl rfl rfl ?_)); (fail_if_success (refine c_lit false rfl rfl rfl ?_)); refine c_split rfl rfl (fun _ => ?_) (fun _ => ?_)))
  | false =>
    rw [hm] at hmu
    obtain ⟨hl60, hs2000⟩ : l.length ≤ 60 ∧ sumA l ≤ 2000 := by
      unfold muchB at hm
      rw [decide_eq_false_iff_not] at hm
      omega
    obtain ⟨g0, c0, H0⟩ := new_all E0 S0
    have w0 := H0.wf
    repeat' (first
      | refine r_call (f := 6) rfl rfl Try.call6 rfl hmu ?_ | refine r_newC (own := []) (g' := g0) rfl w0 rfl rfl Try.call8 rfl rfl c0 ?_ | refine r_objL (g := g0) rfl rfl rfl (by (first | omega | exact Nat.le_of_ble_eq_true rfl | (simp_all; done) | (simp_all; omega) | ((repeat' refine And.intro ?_ ?_) <;> first | omega | rfl | exact Nat.le_refl _ | exact Nat.le_of_ble_eq_true rfl | exact bytesF_one _ | (simp_all; done) | (simp_all; omega)))) ?_
      | with_reducible refine t_seq ?_ | with_reducible refine t_region ?_ | with_reducible refine c_nil ?_ | with_reducible refine n_then ?_
      | with_reducible refine t_ret ?_ | with_reducible refine t_skip ?_ | with_reducible refine t_exit ?_ | with_reducible refine t_block ?_
      | with_reducible refine n_block ?_ | with_reducible refine e_then ?_ | with_reducible refine x_then ?_ | with_reducible refine x_block ?_ | with_reducible refine t_draw ?_
      | refine r_val rfl rfl True.intro ?_ | refine r_gskip rfl rfl rfl ?_ | refine r_gskip2 rfl rfl rfl ?_ | refine r_gval rfl rfl rfl rfl True.intro ?_
      | refine t_true rfl ?_ | refine t_false rfl ?_
      | ((first | refine t_cond_d rfl (fun _ => ?_) (fun _ => ?_) | refine t_cond_i rfl (fun _ => ?_) (fun _ => ?_) | refine t_cond_j rfl (fun _ => ?_) (fun _ => ?_) | refine t_cond_s rfl (fun _ => ?_) (fun _ => ?_) | refine t_cond_n rfl (fun _ => ?_) (fun _ => ?_) | refine t_cond rfl (fun _ => ?_) (fun _ => ?_) | refine c_split_d rfl rfl (fun _ => ?_) (fun _ => ?_) | refine c_split_i rfl rfl (fun _ => ?_) (fun _ => ?_) | refine c_split_j rfl rfl (fun _ => ?_) (fun _ => ?_) | refine c_split_s rfl rfl (fun _ => ?_) (fun _ => ?_) | refine c_split_n rfl rfl (fun _ => ?_) (fun _ => ?_)) <;> try (first | contradiction | (exfalso; omega)))
      | refine r_val rfl rfl (by (first | omega | exact Nat.le_of_ble_eq_true rfl | (simp_all; done) | (simp_all; omega) | ((repeat' refine And.intro ?_ ?_) <;> first | omega | rfl | exact Nat.le_refl _ | exact Nat.le_of_ble_eq_true rfl | exact bytesF_one _ | (simp_all; done) | (simp_all; omega)))) ?_ | refine r_gval rfl rfl rfl rfl (by (first | omega | exact Nat.le_of_ble_eq_true rfl | (simp_all; done) | (simp_all; omega) | ((repeat' refine And.intro ?_ ?_) <;> first | omega | rfl | exact Nat.le_refl _ | exact Nat.le_of_ble_eq_true rfl | exact bytesF_one _ | (simp_all; done) | (simp_all; omega)))) ?_
      | refine r_obj rfl rfl (by (first | omega | exact Nat.le_of_ble_eq_true rfl | (simp_all; done) | (simp_all; omega) | ((repeat' refine And.intro ?_ ?_) <;> first | omega | rfl | exact Nat.le_refl _ | exact Nat.le_of_ble_eq_true rfl | exact bytesF_one _ | (simp_all; done) | (simp_all; omega)))) ?_ | refine r_sto rfl (by (first | omega | exact Nat.le_of_ble_eq_true rfl | (simp_all; done) | (simp_all; omega) | ((repeat' refine And.intro ?_ ?_) <;> first | omega | rfl | exact Nat.le_refl _ | exact Nat.le_of_ble_eq_true rfl | exact bytesF_one _ | (simp_all; done) | (simp_all; omega)))) ?_ | refine r_gobj rfl rfl rfl rfl (by (first | omega | exact Nat.le_of_ble_eq_true rfl | (simp_all; done) | (simp_all; omega) | ((repeat' refine And.intro ?_ ?_) <;> first | omega | rfl | exact Nat.le_refl _ | exact Nat.le_of_ble_eq_true rfl | exact bytesF_one _ | (simp_all; done) | (simp_all; omega)))) ?_
      | refine e_hit rfl ?_ | refine e_miss rfl ?_
      | refine ⟨by kernel_rfl, ?_⟩ | ((with_reducible refine c_grd ?_); (fail_if_success (refine c_lit true rfl rfl rfl ?_)); (fail_if_success (refine c_lit false rfl rfl rfl ?_)); refine c_split rfl rfl (fun _ => ?_) (fun _ => ?_)))
    refine T.loop hL (fun x : Nat × Rg × List Ent × Int × Int × Prs => bndF l E0 S0 x.1 x.2.2.2.2.2) (fun x => [lastO x.2.2.2.2.2] ++ objs x.2.1) (fun x => BndI l E0 S0 x.1 x.2.1 x.2.2.1 x.2.2.2.1 x.2.2.2.2.1 x.2.2.2.2.2) (fun x => l.length - x.1) (0, g0, [], 0, 0, [])
      (⟨H0, by omega, by omega, by omega, by simp [sumL], ⟨by simp only [List.length_nil]; omega, by simp only [sumL]; omega⟩, fun p hp => by simp at hp, by simp⟩ : BndI l E0 S0 0 g0 [] 0 0 [])
      ⟨⟨rfl, rfl, rfl, rfl, rfl, rfl, trivial⟩, leOw_C (own2 := [_]) rfl (le_arr rfl rfl fun i hi => by simp [flatP] at hi), okAll_b (ks := [9000, 20]) w0 (fun k hk => hk) rfl, fun k hk => by rw [hX] at hk; simp at hk⟩ ?_
    rintro ⟨i, g, la, h, m, P⟩ ⟨H, hi, hh, hm', hsum, hfit, hlast, hpl⟩
    dsimp only at H hi hh hm' hsum hfit hlast hpl ⊢
    have w := H.wf
    have hfl := flatP_len P
    by_cases hil : i < l.length
    · have hA := hl.ok (i : Int).toNat
      have hst := sumA_take hil
      have hsz : (l.getD i dAct).sz = (l.getD (i : Int).toNat dAct).key.length + (l.getD (i : Int).toNat dAct).len := by rw [Int.toNat_natCast]; rfl
      have hle := sumA_le l (i + 1)
      have hby := hA.by'
      have hkl := hA.k
      have hbl := hA.l
      by_cases hdo : (l.getD (i : Int).toNat dAct).dd = 1
      · cases hpb : putB (max E0 0) (max S0 0) (l.getD (i : Int).toNat dAct).key (l.getD (i : Int).toNat dAct).b with
        | true =>
          obtain ⟨g1, c1, H1, n1⟩ := put_t H (l.getD (i : Int).toNat dAct).key (l.getD (i : Int).toNat dAct).b hA.isB (by show sumL la + ((l.getD (i : Int).toNat dAct).key.length + (l.getD (i : Int).toNat dAct).len) ≤ 1000000; omega) (by omega) (by omega) hpb
          have w1 := H1.wf
          have sum1 : sumL (putL (max E0 0) (max S0 0) la (l.getD (i : Int).toNat dAct).key (l.getD (i : Int).toNat dAct).b) ≤ sumL la + ((l.getD (i : Int).toNat dAct).key.length + (l.getD (i : Int).toNat dAct).len) := putL_sum ..
          have fit1 := putL_fit (E := max E0 0) (M := max S0 0) (by omega) (by omega) la (l.getD (i : Int).toNat dAct).key (l.getD (i : Int).toNat dAct).b
          have last1 := last_put (E := max E0 0) (M := max S0 0) (k := (l.getD (i : Int).toNat dAct).key) (d := (l.getD (i : Int).toNat dAct).b) hlast
          have hfa : flatP (P ++ [((l.getD (i : Int).toNat dAct).key, txtD (l.getD (i : Int).toNat dAct).b)]) = flatP P ++ [(l.getD (i : Int).toNat dAct).key, bytesOf (l.getD (i : Int).toNat dAct).len (l.getD (i : Int).toNat dAct).f] := flatP_app ..
          have hfl0 : (flatP (P ++ [((l.getD (i : Int).toNat dAct).key, txtD (l.getD (i : Int).toNat dAct).b)])).length = (flatP P).length + 2 := by rw [hfa]; simp
          have hPl : (P ++ [((l.getD (i : Int).toNat dAct).key, txtD (l.getD (i : Int).toNat dAct).b)]).length = P.length + 1 := by simp
          have hfl1 := flatP_len (P ++ [((l.getD (i : Int).toNat dAct).key, txtD (l.getD (i : Int).toNat dAct).b)])
          have fit2 := getR_fit (l.getD (i : Int).toNat dAct).key fit1
          have last2 := last_get (k := (l.getD (i : Int).toNat dAct).key) last1
          have sum2 := getR_sum (putL (max E0 0) (max S0 0) la (l.getD (i : Int).toNat dAct).key (l.getD (i : Int).toNat dAct).b) (l.getD (i : Int).toNat dAct).key
          cases hgv : getL (putL (max E0 0) (max S0 0) la (l.getD (i : Int).toNat dAct).key (l.getD (i : Int).toNat dAct).b) (l.getD (i : Int).toNat dAct).key with
          | none =>
            obtain ⟨g2, c2, H2, n2⟩ := get_none H1 hgv (by omega) (by omega)
            have w2 := H2.wf
            have cl := len_all H2
            have cs := size_all H2
            repeat' (first
              | refine r_lendC (f := 9) (g := g) (g' := g1) rfl n1 w w1 rfl rfl Try.call9 rfl rfl c1 ?_ | refine r_lendC (f := 10) (g := g1) (g' := g2) rfl n2 w1 w2 rfl rfl Try.call10 rfl rfl c2 ?_ | refine r_objL rfl rfl rfl (by first | omega | exact ⟨rfl, hby⟩ | exact ⟨rfl, hvb⟩ | exact Nat.le_of_ble_eq_true rfl | ((repeat' refine And.intro ?_ ?_) <;> first | omega | rfl | trivial | exact Nat.le_refl _ | exact Nat.le_of_ble_eq_true rfl)) ?_
              | with_reducible refine t_seq ?_ | with_reducible refine t_region ?_ | with_reducible refine c_nil ?_ | with_reducible refine n_then ?_
              | with_reducible refine t_ret ?_ | with_reducible refine t_skip ?_ | with_reducible refine t_exit ?_ | with_reducible refine t_block ?_
              | with_reducible refine n_block ?_ | with_reducible refine e_then ?_ | with_reducible refine x_then ?_ | with_reducible refine x_block ?_ | with_reducible refine t_draw ?_
              | refine r_val rfl rfl True.intro ?_ | refine r_gskip rfl rfl rfl ?_ | refine r_gskip2 rfl rfl rfl ?_ | refine r_gval rfl rfl rfl rfl True.intro ?_
              | refine t_true rfl ?_ | refine t_false rfl ?_
              | ((first | refine t_cond_d rfl (fun _ => ?_) (fun _ => ?_) | refine t_cond_i rfl (fun _ => ?_) (fun _ => ?_) | refine t_cond_j rfl (fun _ => ?_) (fun _ => ?_) | refine t_cond_s rfl (fun _ => ?_) (fun _ => ?_) | refine t_cond_n rfl (fun _ => ?_) (fun _ => ?_) | refine t_cond rfl (fun _ => ?_) (fun _ => ?_) | refine c_split_d rfl rfl (fun _ => ?_) (fun _ => ?_) | refine c_split_i rfl rfl (fun _ => ?_) (fun _ => ?_) | refine c_split_j rfl rfl (fun _ => ?_) (fun _ => ?_) | refine c_split_s rfl rfl (fun _ => ?_) (fun _ => ?_) | refine c_split_n rfl rfl (fun _ => ?_) (fun _ => ?_)) <;> try (first | contradiction | (exfalso; omega)))
              | refine r_val rfl rfl (by (first | omega | exact ⟨rfl, hby⟩ | exact ⟨rfl, hvb⟩ | exact Nat.le_of_ble_eq_true rfl | ((repeat' refine And.intro ?_ ?_) <;> first | omega | rfl | trivial | exact Nat.le_refl _ | exact Nat.le_of_ble_eq_true rfl))) ?_ | refine r_gval rfl rfl rfl rfl (by (first | omega | exact ⟨rfl, hby⟩ | exact ⟨rfl, hvb⟩ | exact Nat.le_of_ble_eq_true rfl | ((repeat' refine And.intro ?_ ?_) <;> first | omega | rfl | trivial | exact Nat.le_refl _ | exact Nat.le_of_ble_eq_true rfl))) ?_
              | refine r_obj rfl rfl (by (first | omega | exact ⟨rfl, hby⟩ | exact ⟨rfl, hvb⟩ | exact Nat.le_of_ble_eq_true rfl | ((repeat' refine And.intro ?_ ?_) <;> first | omega | rfl | trivial | exact Nat.le_refl _ | exact Nat.le_of_ble_eq_true rfl))) ?_ | refine r_sto rfl (by (first | omega | exact ⟨rfl, hby⟩ | exact ⟨rfl, hvb⟩ | exact Nat.le_of_ble_eq_true rfl | ((repeat' refine And.intro ?_ ?_) <;> first | omega | rfl | trivial | exact Nat.le_refl _ | exact Nat.le_of_ble_eq_true rfl))) ?_ | refine r_gobj rfl rfl rfl rfl (by (first | omega | exact ⟨rfl, hby⟩ | exact ⟨rfl, hvb⟩ | exact Nat.le_of_ble_eq_true rfl | ((repeat' refine And.intro ?_ ?_) <;> first | omega | rfl | trivial | exact Nat.le_refl _ | exact Nat.le_of_ble_eq_true rfl))) ?_
              | refine e_hit rfl ?_ | refine e_miss rfl ?_
              | refine ⟨by kernel_rfl, ?_⟩ | ((with_reducible refine c_grd ?_); (fail_if_success (refine c_lit true rfl rfl rfl ?_)); (fail_if_success (refine c_lit false rfl rfl rfl ?_)); refine c_split rfl rfl (fun _ => ?_) (fun _ => ?_)))
            refine T.loop hL (fun _ : Unit => (12, .b false) :: (13, .i .i64 (2 * ((P ++ [((l.getD (i : Int).toNat dAct).key, txtD (l.getD (i : Int).toNat dAct).b)]).length : Int) - 2)) :: bndF l E0 S0 i (P ++ [((l.getD (i : Int).toNat dAct).key, txtD (l.getD (i : Int).toNat dAct).b)])) (fun _ => [lastO (P ++ [((l.getD (i : Int).toNat dAct).key, txtD (l.getD (i : Int).toNat dAct).b)]), (10, .var (actC (l.getD (i : Int).toNat dAct)))] ++ objs g2) (fun _ => True) (fun _ => 0) () trivial
              ⟨⟨rfl, congrArg (D.i .i64) (by omega), rfl, rfl, rfl, rfl, (by rw [hfl0]; rfl), rfl, trivial⟩, leOw_C (own2 := [_, _]) rfl ⟨(le_arr rfl (by rw [hfl0]) (fun q hq => by rw [hfa]; exact ky_cat2 _ _ _ q (by omega))).1, rfl, trivial⟩, okAll_b (ks := [9000, 20, 10]) w2 (fun k hk => hk) rfl, fun k hk => by rw [hX] at hk; simp at hk⟩ ?_
            intro _ _
            repeat' (first
              | refine r_lendCR (f := 11) (g := g2) rfl w2 rfl rfl Try.call11 rfl rfl cl ?_ | refine r_glendCR (f := 11) (g := g2) rfl w2 rfl rfl rfl rfl Try.call11 rfl rfl cl ?_ | refine r_glendCR (f := 12) (g := g2) rfl w2 rfl rfl rfl rfl Try.call12 rfl rfl cs ?_
              | with_reducible refine t_seq ?_ | with_reducible refine t_region ?_ | with_reducible refine c_nil ?_ | with_reducible refine n_then ?_
              | with_reducible refine t_ret ?_ | with_reducible refine t_skip ?_ | with_reducible refine t_exit ?_ | with_reducible refine t_block ?_
              | with_reducible refine n_block ?_ | with_reducible refine e_then ?_ | with_reducible refine x_then ?_ | with_reducible refine x_block ?_ | with_reducible refine t_draw ?_
              | refine r_val rfl rfl True.intro ?_ | refine r_gskip rfl rfl rfl ?_ | refine r_gskip2 rfl rfl rfl ?_ | refine r_gval rfl rfl rfl rfl True.intro ?_
              | refine t_true rfl ?_ | refine t_false rfl ?_
              | ((first | refine t_cond_d rfl (fun _ => ?_) (fun _ => ?_) | refine t_cond_i rfl (fun _ => ?_) (fun _ => ?_) | refine t_cond_j rfl (fun _ => ?_) (fun _ => ?_) | refine t_cond_s rfl (fun _ => ?_) (fun _ => ?_) | refine t_cond_n rfl (fun _ => ?_) (fun _ => ?_) | refine t_cond rfl (fun _ => ?_) (fun _ => ?_) | refine c_split_d rfl rfl (fun _ => ?_) (fun _ => ?_) | refine c_split_i rfl rfl (fun _ => ?_) (fun _ => ?_) | refine c_split_j rfl rfl (fun _ => ?_) (fun _ => ?_) | refine c_split_s rfl rfl (fun _ => ?_) (fun _ => ?_) | refine c_split_n rfl rfl (fun _ => ?_) (fun _ => ?_)) <;> try (first | contradiction | (exfalso; omega)))
              | refine r_val rfl rfl (by (first | omega | exact ⟨rfl, hby⟩ | exact ⟨rfl, hvb⟩ | exact Nat.le_of_ble_eq_true rfl | ((repeat' refine And.intro ?_ ?_) <;> first | omega | rfl | trivial | exact Nat.le_refl _ | exact Nat.le_of_ble_eq_true rfl))) ?_ | refine r_gval rfl rfl rfl rfl (by (first | omega | exact ⟨rfl, hby⟩ | exact ⟨rfl, hvb⟩ | exact Nat.le_of_ble_eq_true rfl | ((repeat' refine And.intro ?_ ?_) <;> first | omega | rfl | trivial | exact Nat.le_refl _ | exact Nat.le_of_ble_eq_true rfl))) ?_
              | refine r_obj rfl rfl (by (first | omega | exact ⟨rfl, hby⟩ | exact ⟨rfl, hvb⟩ | exact Nat.le_of_ble_eq_true rfl | ((repeat' refine And.intro ?_ ?_) <;> first | omega | rfl | trivial | exact Nat.le_refl _ | exact Nat.le_of_ble_eq_true rfl))) ?_ | refine r_sto rfl (by (first | omega | exact ⟨rfl, hby⟩ | exact ⟨rfl, hvb⟩ | exact Nat.le_of_ble_eq_true rfl | ((repeat' refine And.intro ?_ ?_) <;> first | omega | rfl | trivial | exact Nat.le_refl _ | exact Nat.le_of_ble_eq_true rfl))) ?_ | refine r_gobj rfl rfl rfl rfl (by (first | omega | exact ⟨rfl, hby⟩ | exact ⟨rfl, hvb⟩ | exact Nat.le_of_ble_eq_true rfl | ((repeat' refine And.intro ?_ ?_) <;> first | omega | rfl | trivial | exact Nat.le_refl _ | exact Nat.le_of_ble_eq_true rfl))) ?_
              | refine e_hit rfl ?_ | refine e_miss rfl ?_
              | refine ⟨by kernel_rfl, ?_⟩ | ((with_reducible refine c_grd ?_); (fail_if_success (refine c_lit true rfl rfl rfl ?_)); (fail_if_success (refine c_lit false rfl rfl rfl ?_)); refine c_split rfl rfl (fun _ => ?_) (fun _ => ?_)))
            all_goals exact ⟨(i + 1, g2, getR (putL (max E0 0) (max S0 0) la (l.getD (i : Int).toNat dAct).key (l.getD (i : Int).toNat dAct).b) (l.getD (i : Int).toNat dAct).key, h, m + 1, P ++ [((l.getD (i : Int).toNat dAct).key, txtD (l.getD (i : Int).toNat dAct).b)]), (⟨H2, by omega, by omega, by omega, by omega, fit2, last2, by first | omega | (simp only [List.length_append, List.length_cons, List.length_nil]; omega)⟩ : BndI l E0 S0 (i + 1) g2 (getR (putL (max E0 0) (max S0 0) la (l.getD (i : Int).toNat dAct).key (l.getD (i : Int).toNat dAct).b) (l.getD (i : Int).toNat dAct).key) (h) (m + 1) (P ++ [((l.getD (i : Int).toNat dAct).key, txtD (l.getD (i : Int).toNat dAct).b)])), by dsimp only; omega, ⟨rfl, rfl, rfl, rfl, rfl, congrArg (D.i .i64) (by omega), trivial⟩, leOw_C (own2 := [_]) rfl (le_arr rfl rfl fun _ _ => rfl), okAll_b (ks := [9000, 20]) w2 (fun k hk => hk) rfl, fun k hk => by rw [hX] at hk; simp at hk⟩
          | some v =>
            obtain ⟨g2, c2, H2, n2, o2⟩ := get_some H1 hgv (by omega) (by omega)
            have w2 := H2.wf
            have cl := len_all H2
            have cs := size_all H2
            have hvi := H1.isB _ (getL_mem hgv)
            have hvl := last1 _ (getL_mem hgv)
            obtain ⟨vn, vf, rfl⟩ : ∃ n f, v = .sl 1 n f := ⟨_, _, hvi.1⟩
            have hvb : ∀ j, j < vn → ∃ n, vf j = [.i .u8 n] := hvi.2
            have hvl : lastV (P ++ [((l.getD (i : Int).toNat dAct).key, txtD (l.getD (i : Int).toNat dAct).b)]) (l.getD (i : Int).toNat dAct).key = some (bytesOf vn vf) := hvl
            repeat' (first
              | refine r_lendC (f := 9) (g := g) (g' := g1) rfl n1 w w1 rfl rfl Try.call9 rfl rfl c1 ?_ | refine r_lendC (f := 10) (g := g1) (g' := g2) rfl n2 w1 w2 rfl rfl Try.call10 rfl o2 c2 ?_ | refine r_objL rfl rfl rfl (by first | omega | exact ⟨rfl, hby⟩ | exact ⟨rfl, hvb⟩ | exact Nat.le_of_ble_eq_true rfl | ((repeat' refine And.intro ?_ ?_) <;> first | omega | rfl | trivial | exact Nat.le_refl _ | exact Nat.le_of_ble_eq_true rfl)) ?_
              | with_reducible refine t_seq ?_ | with_reducible refine t_region ?_ | with_reducible refine c_nil ?_ | with_reducible refine n_then ?_
              | with_reducible refine t_ret ?_ | with_reducible refine t_skip ?_ | with_reducible refine t_exit ?_ | with_reducible refine t_block ?_
              | with_reducible refine n_block ?_ | with_reducible refine e_then ?_ | with_reducible refine x_then ?_ | with_reducible refine x_block ?_ | with_reducible refine t_draw ?_
              | refine r_val rfl rfl True.intro ?_ | refine r_gskip rfl rfl rfl ?_ | refine r_gskip2 rfl rfl rfl ?_ | refine r_gval rfl rfl rfl rfl True.intro ?_
              | refine t_true rfl ?_ | refine t_false rfl ?_
              | ((first | refine t_cond_d rfl (fun _ => ?_) (fun _ => ?_) | refine t_cond_i rfl (fun _ => ?_) (fun _ => ?_) | refine t_cond_j rfl (fun _ => ?_) (fun _ => ?_) | refine t_cond_s rfl (fun _ => ?_) (fun _ => ?_) | refine t_cond_n rfl (fun _ => ?_) (fun _ => ?_) | refine t_cond rfl (fun _ => ?_) (fun _ => ?_) | refine c_split_d rfl rfl (fun _ => ?_) (fun _ => ?_) | refine c_split_i rfl rfl (fun _ => ?_) (fun _ => ?_) | refine c_split_j rfl rfl (fun _ => ?_) (fun _ => ?_) | refine c_split_s rfl rfl (fun _ => ?_) (fun _ => ?_) | refine c_split_n rfl rfl (fun _ => ?_) (fun _ => ?_)) <;> try (first | contradiction | (exfalso; omega)))
              | refine r_val rfl rfl (by (first | omega | exact ⟨rfl, hby⟩ | exact ⟨rfl, hvb⟩ | exact Nat.le_of_ble_eq_true rfl | ((repeat' refine And.intro ?_ ?_) <;> first | omega | rfl | trivial | exact Nat.le_refl _ | exact Nat.le_of_ble_eq_true rfl))) ?_ | refine r_gval rfl rfl rfl rfl (by (first | omega | exact ⟨rfl, hby⟩ | exact ⟨rfl, hvb⟩ | exact Nat.le_of_ble_eq_true rfl | ((repeat' refine And.intro ?_ ?_) <;> first | omega | rfl | trivial | exact Nat.le_refl _ | exact Nat.le_of_ble_eq_true rfl))) ?_
              | refine r_obj rfl rfl (by (first | omega | exact ⟨rfl, hby⟩ | exact ⟨rfl, hvb⟩ | exact Nat.le_of_ble_eq_true rfl | ((repeat' refine And.intro ?_ ?_) <;> first | omega | rfl | trivial | exact Nat.le_refl _ | exact Nat.le_of_ble_eq_true rfl))) ?_ | refine r_sto rfl (by (first | omega | exact ⟨rfl, hby⟩ | exact ⟨rfl, hvb⟩ | exact Nat.le_of_ble_eq_true rfl | ((repeat' refine And.intro ?_ ?_) <;> first | omega | rfl | trivial | exact Nat.le_refl _ | exact Nat.le_of_ble_eq_true rfl))) ?_ | refine r_gobj rfl rfl rfl rfl (by (first | omega | exact ⟨rfl, hby⟩ | exact ⟨rfl, hvb⟩ | exact Nat.le_of_ble_eq_true rfl | ((repeat' refine And.intro ?_ ?_) <;> first | omega | rfl | trivial | exact Nat.le_refl _ | exact Nat.le_of_ble_eq_true rfl))) ?_
              | refine e_hit rfl ?_ | refine e_miss rfl ?_
              | refine ⟨by kernel_rfl, ?_⟩ | ((with_reducible refine c_grd ?_); (fail_if_success (refine c_lit true rfl rfl rfl ?_)); (fail_if_success (refine c_lit false rfl rfl rfl ?_)); refine c_split rfl rfl (fun _ => ?_) (fun _ => ?_)))
            refine T.loop hL (fun j : Nat => (10, .pv 10 0) :: (11, .sl 1 vn vf) :: (12, .b true) :: (13, .i .i64 (2 * (j : Int) - 2)) :: bndF l E0 S0 i (P ++ [((l.getD (i : Int).toNat dAct).key, txtD (l.getD (i : Int).toNat dAct).b)])) (fun _ => [lastO (P ++ [((l.getD (i : Int).toNat dAct).key, txtD (l.getD (i : Int).toNat dAct).b)]), (10, .var (actC (l.getD (i : Int).toNat dAct)))] ++ objs g2) (fun j => j ≤ (P ++ [((l.getD (i : Int).toNat dAct).key, txtD (l.getD (i : Int).toNat dAct).b)]).length ∧ lastV ((P ++ [((l.getD (i : Int).toNat dAct).key, txtD (l.getD (i : Int).toNat dAct).b)]).take j) (l.getD (i : Int).toNat dAct).key = some (bytesOf vn vf)) (fun j => j) (P ++ [((l.getD (i : Int).toNat dAct).key, txtD (l.getD (i : Int).toNat dAct).b)]).length ⟨Nat.le_refl _, by rw [List.take_length]; exact hvl⟩
              ⟨⟨rfl, rfl, rfl, congrArg (D.i .i64) (by omega), rfl, rfl, rfl, rfl, (by rw [hfl0]; rfl), rfl, trivial⟩, leOw_C (own2 := [_, _]) rfl ⟨(le_arr rfl (by rw [hfl0]) (fun q hq => by rw [hfa]; exact ky_cat2 _ _ _ q (by omega))).1, rfl, trivial⟩, okAll_b (ks := [9000, 20, 10]) w2 (fun k hk => hk) rfl, fun k hk => by rw [hX] at hk; simp at hk⟩ ?_
            rintro j ⟨hj, hjl⟩
            by_cases hj0 : j = 0
            · subst hj0
              repeat' (first
                | refine r_lendCR (f := 11) (g := g2) rfl w2 rfl rfl Try.call11 rfl rfl cl ?_ | refine r_glendCR (f := 11) (g := g2) rfl w2 rfl rfl rfl rfl Try.call11 rfl rfl cl ?_ | refine r_glendCR (f := 12) (g := g2) rfl w2 rfl rfl rfl rfl Try.call12 rfl rfl cs ?_
                | with_reducible refine t_seq ?_ | with_reducible refine t_region ?_ | with_reducible refine c_nil ?_ | with_reducible refine n_then ?_
                | with_reducible refine t_ret ?_ | with_reducible refine t_skip ?_ | with_reducible refine t_exit ?_ | with_reducible refine t_block ?_
                | with_reducible refine n_block ?_ | with_reducible refine e_then ?_ | with_reducible refine x_then ?_ | with_reducible refine x_block ?_ | with_reducible refine t_draw ?_
                | refine r_val rfl rfl True.intro ?_ | refine r_gskip rfl rfl rfl ?_ | refine r_gskip2 rfl rfl rfl ?_ | refine r_gval rfl rfl rfl rfl True.intro ?_
                | refine t_true rfl ?_ | refine t_false rfl ?_
                | ((first | refine t_cond_d rfl (fun _ => ?_) (fun _ => ?_) | refine t_cond_i rfl (fun _ => ?_) (fun _ => ?_) | refine t_cond_j rfl (fun _ => ?_) (fun _ => ?_) | refine t_cond_s rfl (fun _ => ?_) (fun _ => ?_) | refine t_cond_n rfl (fun _ => ?_) (fun _ => ?_) | refine t_cond rfl (fun _ => ?_) (fun _ => ?_) | refine c_split_d rfl rfl (fun _ => ?_) (fun _ => ?_) | refine c_split_i rfl rfl (fun _ => ?_) (fun _ => ?_) | refine c_split_j rfl rfl (fun _ => ?_) (fun _ => ?_) | refine c_split_s rfl rfl (fun _ => ?_) (fun _ => ?_) | refine c_split_n rfl rfl (fun _ => ?_) (fun _ => ?_)) <;> try (first | contradiction | (exfalso; omega)))
                | refine r_val rfl rfl (by (first | omega | exact ⟨rfl, hby⟩ | exact ⟨rfl, hvb⟩ | exact Nat.le_of_ble_eq_true rfl | ((repeat' refine And.intro ?_ ?_) <;> first | omega | rfl | trivial | exact Nat.le_refl _ | exact Nat.le_of_ble_eq_true rfl))) ?_ | refine r_gval rfl rfl rfl rfl (by (first | omega | exact ⟨rfl, hby⟩ | exact ⟨rfl, hvb⟩ | exact Nat.le_of_ble_eq_true rfl | ((repeat' refine And.intro ?_ ?_) <;> first | omega | rfl | trivial | exact Nat.le_refl _ | exact Nat.le_of_ble_eq_true rfl))) ?_
                | refine r_obj rfl rfl (by (first | omega | exact ⟨rfl, hby⟩ | exact ⟨rfl, hvb⟩ | exact Nat.le_of_ble_eq_true rfl | ((repeat' refine And.intro ?_ ?_) <;> first | omega | rfl | trivial | exact Nat.le_refl _ | exact Nat.le_of_ble_eq_true rfl))) ?_ | refine r_sto rfl (by (first | omega | exact ⟨rfl, hby⟩ | exact ⟨rfl, hvb⟩ | exact Nat.le_of_ble_eq_true rfl | ((repeat' refine And.intro ?_ ?_) <;> first | omega | rfl | trivial | exact Nat.le_refl _ | exact Nat.le_of_ble_eq_true rfl))) ?_ | refine r_gobj rfl rfl rfl rfl (by (first | omega | exact ⟨rfl, hby⟩ | exact ⟨rfl, hvb⟩ | exact Nat.le_of_ble_eq_true rfl | ((repeat' refine And.intro ?_ ?_) <;> first | omega | rfl | trivial | exact Nat.le_refl _ | exact Nat.le_of_ble_eq_true rfl))) ?_
                | refine e_hit rfl ?_ | refine e_miss rfl ?_
                | refine ⟨by kernel_rfl, ?_⟩ | ((with_reducible refine c_grd ?_); (fail_if_success (refine c_lit true rfl rfl rfl ?_)); (fail_if_success (refine c_lit false rfl rfl rfl ?_)); refine c_split rfl rfl (fun _ => ?_) (fun _ => ?_)))
              all_goals exact ⟨(i + 1, g2, getR (putL (max E0 0) (max S0 0) la (l.getD (i : Int).toNat dAct).key (l.getD (i : Int).toNat dAct).b) (l.getD (i : Int).toNat dAct).key, h + 1, m, P ++ [((l.getD (i : Int).toNat dAct).key, txtD (l.getD (i : Int).toNat dAct).b)]), (⟨H2, by omega, by omega, by omega, by omega, fit2, last2, by first | omega | (simp only [List.length_append, List.length_cons, List.length_nil]; omega)⟩ : BndI l E0 S0 (i + 1) g2 (getR (putL (max E0 0) (max S0 0) la (l.getD (i : Int).toNat dAct).key (l.getD (i : Int).toNat dAct).b) (l.getD (i : Int).toNat dAct).key) (h + 1) (m) (P ++ [((l.getD (i : Int).toNat dAct).key, txtD (l.getD (i : Int).toNat dAct).b)])), by dsimp only; omega, ⟨rfl, rfl, rfl, rfl, rfl, congrArg (D.i .i64) (by omega), trivial⟩, leOw_C (own2 := [_]) rfl (le_arr rfl rfl fun _ _ => rfl), okAll_b (ks := [9000, 20]) w2 (fun k hk => hk) rfl, fun k hk => by rw [hX] at hk; simp at hk⟩
            · obtain ⟨q1, q2⟩ := flatP_at (P ++ [((l.getD (i : Int).toNat dAct).key, txtD (l.getD (i : Int).toNat dAct).b)]) (j - 1) (by omega)
              have u1 : (2 * (j : Int) - 2).toNat = 2 * (j - 1) := by omega
              have u2 : (2 * (j : Int) - 2 + 1).toNat = 2 * (j - 1) + 1 := by omega
              rw [show j = j - 1 + 1 by omega, take_snoc (P ++ [((l.getD (i : Int).toNat dAct).key, txtD (l.getD (i : Int).toNat dAct).b)]) (by omega), lastV_snoc] at hjl
              by_cases he : (flatP (P ++ [((l.getD (i : Int).toNat dAct).key, txtD (l.getD (i : Int).toNat dAct).b)])).getD (2 * (j : Int) - 2).toNat [] = (l.getD (i : Int).toNat dAct).key
              · have he1 : ((P ++ [((l.getD (i : Int).toNat dAct).key, txtD (l.getD (i : Int).toNat dAct).b)]).getD (j - 1) ([], [])).1 = (l.getD (i : Int).toNat dAct).key := by rw [← q1, ← u1]; exact he
                rw [if_pos he1] at hjl
                have he2 : (flatP (P ++ [((l.getD (i : Int).toNat dAct).key, txtD (l.getD (i : Int).toNat dAct).b)])).getD (2 * (j : Int) - 2 + 1).toNat [] = bytesOf vn vf := by rw [u2, q2]; exact Option.some.inj hjl
                repeat' (first
                  | refine r_lendCR (f := 11) (g := g2) rfl w2 rfl rfl Try.call11 rfl rfl cl ?_ | refine r_glendCR (f := 11) (g := g2) rfl w2 rfl rfl rfl rfl Try.call11 rfl rfl cl ?_ | refine r_glendCR (f := 12) (g := g2) rfl w2 rfl rfl rfl rfl Try.call12 rfl rfl cs ?_
                  | with_reducible refine t_seq ?_ | with_reducible refine t_region ?_ | with_reducible refine c_nil ?_ | with_reducible refine n_then ?_
                  | with_reducible refine t_ret ?_ | with_reducible refine t_skip ?_ | with_reducible refine t_exit ?_ | with_reducible refine t_block ?_
                  | with_reducible refine n_block ?_ | with_reducible refine e_then ?_ | with_reducible refine x_then ?_ | with_reducible refine x_block ?_ | with_reducible refine t_draw ?_
                  | refine r_val rfl rfl True.intro ?_ | refine r_gskip rfl rfl rfl ?_ | refine r_gskip2 rfl rfl rfl ?_ | refine r_gval rfl rfl rfl rfl True.intro ?_
                  | refine t_true rfl ?_ | refine t_false rfl ?_
                  | ((first | refine t_cond_d rfl (fun _ => ?_) (fun _ => ?_) | refine t_cond_i rfl (fun _ => ?_) (fun _ => ?_) | refine t_cond_j rfl (fun _ => ?_) (fun _ => ?_) | refine t_cond_s rfl (fun _ => ?_) (fun _ => ?_) | refine t_cond_n rfl (fun _ => ?_) (fun _ => ?_) | refine t_cond rfl (fun _ => ?_) (fun _ => ?_) | refine c_split_d rfl rfl (fun _ => ?_) (fun _ => ?_) | refine c_split_i rfl rfl (fun _ => ?_) (fun _ => ?_) | refine c_split_j rfl rfl (fun _ => ?_) (fun _ => ?_) | refine c_split_s rfl rfl (fun _ => ?_) (fun _ => ?_) | refine c_split_n rfl rfl (fun _ => ?_) (fun _ => ?_)) <;> try (first | contradiction | (exfalso; omega)))
                  | refine r_val rfl rfl (by (first | omega | exact ⟨rfl, hby⟩ | exact ⟨rfl, hvb⟩ | exact Nat.le_of_ble_eq_true rfl | ((repeat' refine And.intro ?_ ?_) <;> first | omega | rfl | trivial | exact Nat.le_refl _ | exact Nat.le_of_ble_eq_true rfl))) ?_ | refine r_gval rfl rfl rfl rfl (by (first | omega | exact ⟨rfl, hby⟩ | exact ⟨rfl, hvb⟩ | exact Nat.le_of_ble_eq_true rfl | ((repeat' refine And.intro ?_ ?_) <;> first | omega | rfl | trivial | exact Nat.le_refl _ | exact Nat.le_of_ble_eq_true rfl))) ?_
                  | refine r_obj rfl rfl (by (first | omega | exact ⟨rfl, hby⟩ | exact ⟨rfl, hvb⟩ | exact Nat.le_of_ble_eq_true rfl | ((repeat' refine And.intro ?_ ?_) <;> first | omega | rfl | trivial | exact Nat.le_refl _ | exact Nat.le_of_ble_eq_true rfl))) ?_ | refine r_sto rfl (by (first | omega | exact ⟨rfl, hby⟩ | exact ⟨rfl, hvb⟩ | exact Nat.le_of_ble_eq_true rfl | ((repeat' refine And.intro ?_ ?_) <;> first | omega | rfl | trivial | exact Nat.le_refl _ | exact Nat.le_of_ble_eq_true rfl))) ?_ | refine r_gobj rfl rfl rfl rfl (by (first | omega | exact ⟨rfl, hby⟩ | exact ⟨rfl, hvb⟩ | exact Nat.le_of_ble_eq_true rfl | ((repeat' refine And.intro ?_ ?_) <;> first | omega | rfl | trivial | exact Nat.le_refl _ | exact Nat.le_of_ble_eq_true rfl))) ?_
                  | refine e_hit rfl ?_ | refine e_miss rfl ?_
                  | refine ⟨by kernel_rfl, ?_⟩ | refine x_end rfl ?_ | refine n_end rfl ?_ | ((with_reducible refine c_grd ?_); (fail_if_success (refine c_lit true rfl rfl rfl ?_)); (fail_if_success (refine c_lit false rfl rfl rfl ?_)); refine c_split rfl rfl (fun _ => ?_) (fun _ => ?_)))
                all_goals first | (exfalso; rename_i hz; rw [he2] at hz; simp at hz; done) | exact ⟨(i + 1, g2, getR (putL (max E0 0) (max S0 0) la (l.getD (i : Int).toNat dAct).key (l.getD (i : Int).toNat dAct).b) (l.getD (i : Int).toNat dAct).key, h + 1, m, P ++ [((l.getD (i : Int).toNat dAct).key, txtD (l.getD (i : Int).toNat dAct).b)]), (⟨H2, by omega, by omega, by omega, by omega, fit2, last2, by first | omega | (simp only [List.length_append, List.length_cons, List.length_nil]; omega)⟩ : BndI l E0 S0 (i + 1) g2 (getR (putL (max E0 0) (max S0 0) la (l.getD (i : Int).toNat dAct).key (l.getD (i : Int).toNat dAct).b) (l.getD (i : Int).toNat dAct).key) (h + 1) (m) (P ++ [((l.getD (i : Int).toNat dAct).key, txtD (l.getD (i : Int).toNat dAct).b)])), by dsimp only; omega, ⟨rfl, rfl, rfl, rfl, rfl, congrArg (D.i .i64) (by omega), trivial⟩, leOw_C (own2 := [_]) rfl (le_arr rfl rfl fun _ _ => rfl), okAll_b (ks := [9000, 20]) w2 (fun k hk => hk) rfl, fun k hk => by rw [hX] at hk; simp at hk⟩
              · have he1 : ¬ ((P ++ [((l.getD (i : Int).toNat dAct).key, txtD (l.getD (i : Int).toNat dAct).b)]).getD (j - 1) ([], [])).1 = (l.getD (i : Int).toNat dAct).key := by rw [← q1, ← u1]; exact he
                rw [if_neg he1] at hjl
                repeat' (first
                  | refine r_lendCR (f := 11) (g := g2) rfl w2 rfl rfl Try.call11 rfl rfl cl ?_ | refine r_glendCR (f := 11) (g := g2) rfl w2 rfl rfl rfl rfl Try.call11 rfl rfl cl ?_ | refine r_glendCR (f := 12) (g := g2) rfl w2 rfl rfl rfl rfl Try.call12 rfl rfl cs ?_
                  | with_reducible refine t_seq ?_ | with_reducible refine t_region ?_ | with_reducible refine c_nil ?_ | with_reducible refine n_then ?_
                  | with_reducible refine t_ret ?_ | with_reducible refine t_skip ?_ | with_reducible refine t_exit ?_ | with_reducible refine t_block ?_
                  | with_reducible refine n_block ?_ | with_reducible refine e_then ?_ | with_reducible refine x_then ?_ | with_reducible refine x_block ?_ | with_reducible refine t_draw ?_
                  | refine r_val rfl rfl True.intro ?_ | refine r_gskip rfl rfl rfl ?_ | refine r_gskip2 rfl rfl rfl ?_ | refine r_gval rfl rfl rfl rfl True.intro ?_
                  | refine t_true rfl ?_ | refine t_false rfl ?_
                  | ((first | refine t_cond_d rfl (fun _ => ?_) (fun _ => ?_) | refine t_cond_i rfl (fun _ => ?_) (fun _ => ?_) | refine t_cond_j rfl (fun _ => ?_) (fun _ => ?_) | refine t_cond_s rfl (fun _ => ?_) (fun _ => ?_) | refine t_cond_n rfl (fun _ => ?_) (fun _ => ?_) | refine t_cond rfl (fun _ => ?_) (fun _ => ?_) | refine c_split_d rfl rfl (fun _ => ?_) (fun _ => ?_) | refine c_split_i rfl rfl (fun _ => ?_) (fun _ => ?_) | refine c_split_j rfl rfl (fun _ => ?_) (fun _ => ?_) | refine c_split_s rfl rfl (fun _ => ?_) (fun _ => ?_) | refine c_split_n rfl rfl (fun _ => ?_) (fun _ => ?_)) <;> try (first | contradiction | (exfalso; omega)))
                  | refine r_val rfl rfl (by (first | omega | exact ⟨rfl, hby⟩ | exact ⟨rfl, hvb⟩ | exact Nat.le_of_ble_eq_true rfl | ((repeat' refine And.intro ?_ ?_) <;> first | omega | rfl | trivial | exact Nat.le_refl _ | exact Nat.le_of_ble_eq_true rfl))) ?_ | refine r_gval rfl rfl rfl rfl (by (first | omega | exact ⟨rfl, hby⟩ | exact ⟨rfl, hvb⟩ | exact Nat.le_of_ble_eq_true rfl | ((repeat' refine And.intro ?_ ?_) <;> first | omega | rfl | trivial | exact Nat.le_refl _ | exact Nat.le_of_ble_eq_true rfl))) ?_
                  | refine r_obj rfl rfl (by (first | omega | exact ⟨rfl, hby⟩ | exact ⟨rfl, hvb⟩ | exact Nat.le_of_ble_eq_true rfl | ((repeat' refine And.intro ?_ ?_) <;> first | omega | rfl | trivial | exact Nat.le_refl _ | exact Nat.le_of_ble_eq_true rfl))) ?_ | refine r_sto rfl (by (first | omega | exact ⟨rfl, hby⟩ | exact ⟨rfl, hvb⟩ | exact Nat.le_of_ble_eq_true rfl | ((repeat' refine And.intro ?_ ?_) <;> first | omega | rfl | trivial | exact Nat.le_refl _ | exact Nat.le_of_ble_eq_true rfl))) ?_ | refine r_gobj rfl rfl rfl rfl (by (first | omega | exact ⟨rfl, hby⟩ | exact ⟨rfl, hvb⟩ | exact Nat.le_of_ble_eq_true rfl | ((repeat' refine And.intro ?_ ?_) <;> first | omega | rfl | trivial | exact Nat.le_refl _ | exact Nat.le_of_ble_eq_true rfl))) ?_
                  | refine e_hit rfl ?_ | refine e_miss rfl ?_
                  | refine ⟨by kernel_rfl, ?_⟩ | ((with_reducible refine c_grd ?_); (fail_if_success (refine c_lit true rfl rfl rfl ?_)); (fail_if_success (refine c_lit false rfl rfl rfl ?_)); refine c_split rfl rfl (fun _ => ?_) (fun _ => ?_)))
                all_goals exact ⟨j - 1, ⟨by omega, hjl⟩, by omega, ⟨rfl, rfl, rfl, congrArg (D.i .i64) (by omega), rfl, rfl, rfl, rfl, rfl, rfl, trivial⟩, leOw_C (own2 := [_, _]) rfl ⟨(le_arr rfl rfl fun _ _ => rfl).1, rfl, trivial⟩, okAll_b (ks := [9000, 20, 10]) w2 (fun k hk => hk) rfl, fun k hk => by rw [hX] at hk; simp at hk⟩
        | false =>
          obtain ⟨g1, c1, H1, n1⟩ := put_f H (l.getD (i : Int).toNat dAct).key (l.getD (i : Int).toNat dAct).b hA.isB (by show sumL la + ((l.getD (i : Int).toNat dAct).key.length + (l.getD (i : Int).toNat dAct).len) ≤ 1000000; omega) (by omega) (by omega) hpb
          have w1 := H1.wf
          have fit1 := hfit
          have last1 := hlast
          have hfl1 := flatP_len P
          have fit2 := getR_fit (l.getD (i : Int).toNat dAct).key fit1
          have last2 := last_get (k := (l.getD (i : Int).toNat dAct).key) last1
          have sum2 := getR_sum la (l.getD (i : Int).toNat dAct).key
          cases hgv : getL la (l.getD (i : Int).toNat dAct).key with
          | none =>
            obtain ⟨g2, c2, H2, n2⟩ := get_none H1 hgv (by omega) (by omega)
            have w2 := H2.wf
            have cl := len_all H2
            have cs := size_all H2
            repeat' (first
              | refine r_lendC (f := 9) (g := g) (g' := g1) rfl n1 w w1 rfl rfl Try.call9 rfl rfl c1 ?_ | refine r_lendC (f := 10) (g := g1) (g' := g2) rfl n2 w1 w2 rfl rfl Try.call10 rfl rfl c2 ?_ | refine r_objL rfl rfl rfl (by first | omega | exact ⟨rfl, hby⟩ | exact ⟨rfl, hvb⟩ | exact Nat.le_of_ble_eq_true rfl | ((repeat' refine And.intro ?_ ?_) <;> first | omega | rfl | trivial | exact Nat.le_refl _ | exact Nat.le_of_ble_eq_true rfl)) ?_
              | with_reducible refine t_seq ?_ | with_reducible refine t_region ?_ | with_reducible refine c_nil ?_ | with_reducible refine n_then ?_
              | with_reducible refine t_ret ?_ | with_reducible refine t_skip ?_ | with_reducible refine t_exit ?_ | with_reducible refine t_block ?_
              | with_reducible refine n_block ?_ | with_reducible refine e_then ?_ | with_reducible refine x_then ?_ | with_reducible refine x_block ?_ | with_reducible refine t_draw ?_
              | refine r_val rfl rfl True.intro ?_ | refine r_gskip rfl rfl rfl ?_ | refine r_gskip2 rfl rfl rfl ?_ | refine r_gval rfl rfl rfl rfl True.intro ?_
              | refine t_true rfl ?_ | refine t_false rfl ?_
              | ((first | refine t_cond_d rfl (fun _ => ?_) (fun _ => ?_) | refine t_cond_i rfl (fun _ => ?_) (fun _ => ?_) | refine t_cond_j rfl (fun _ => ?_) (fun _ => ?_) | refine t_cond_s rfl (fun _ => ?_) (fun _ => ?_) | refine t_cond_n rfl (fun _ => ?_) (fun _ => ?_) | refine t_cond rfl (fun _ => ?_) (fun _ => ?_) | refine c_split_d rfl rfl (fun _ => ?_) (fun _ => ?_) | refine c_split_i rfl rfl (fun _ => ?_) (fun _ => ?_) | refine c_split_j rfl rfl (fun _ => ?_) (fun _ => ?_) | refine c_split_s rfl rfl (fun _ => ?_) (fun _ => ?_) | refine c_split_n rfl rfl (fun _ => ?_) (fun _ => ?_)) <;> try (first | contradiction | (exfalso; omega)))
              | refine r_val rfl rfl (by (first | omega | exact ⟨rfl, hby⟩ | exact ⟨rfl, hvb⟩ | exact Nat.le_of_ble_eq_true rfl | ((repeat' refine And.intro ?_ ?_) <;> first | omega | rfl | trivial | exact Nat.le_refl _ | exact Nat.le_of_ble_eq_true rfl))) ?_ | refine r_gval rfl rfl rfl rfl (by (first | omega | exact ⟨rfl, hby⟩ | exact ⟨rfl, hvb⟩ | exact Nat.le_of_ble_eq_true rfl | ((repeat' refine And.intro ?_ ?_) <;> first | omega | rfl | trivial | exact Nat.le_refl _ | exact Nat.le_of_ble_eq_true rfl))) ?_
              | refine r_obj rfl rfl (by (first | omega | exact ⟨rfl, hby⟩ | exact ⟨rfl, hvb⟩ | exact Nat.le_of_ble_eq_true rfl | ((repeat' refine And.intro ?_ ?_) <;> first | omega | rfl | trivial | exact Nat.le_refl _ | exact Nat.le_of_ble_eq_true rfl))) ?_ | refine r_sto rfl (by (first | omega | exact ⟨rfl, hby⟩ | exact ⟨rfl, hvb⟩ | exact Nat.le_of_ble_eq_true rfl | ((repeat' refine And.intro ?_ ?_) <;> first | omega | rfl | trivial | exact Nat.le_refl _ | exact Nat.le_of_ble_eq_true rfl))) ?_ | refine r_gobj rfl rfl rfl rfl (by (first | omega | exact ⟨rfl, hby⟩ | exact ⟨rfl, hvb⟩ | exact Nat.le_of_ble_eq_true rfl | ((repeat' refine And.intro ?_ ?_) <;> first | omega | rfl | trivial | exact Nat.le_refl _ | exact Nat.le_of_ble_eq_true rfl))) ?_
              | refine e_hit rfl ?_ | refine e_miss rfl ?_
              | refine ⟨by kernel_rfl, ?_⟩ | ((with_reducible refine c_grd ?_); (fail_if_success (refine c_lit true rfl rfl rfl ?_)); (fail_if_success (refine c_lit false rfl rfl rfl ?_)); refine c_split rfl rfl (fun _ => ?_) (fun _ => ?_)))
            refine T.loop hL (fun _ : Unit => (12, .b false) :: (13, .i .i64 (2 * ((P).length : Int) - 2)) :: bndF l E0 S0 i P) (fun _ => [lastO (P), (10, .var (actC (l.getD (i : Int).toNat dAct)))] ++ objs g2) (fun _ => True) (fun _ => 0) () trivial
              ⟨⟨rfl, congrArg (D.i .i64) (by omega), rfl, rfl, rfl, rfl, rfl, rfl, trivial⟩, leOw_C (own2 := [_, _]) rfl ⟨(le_arr rfl rfl (fun _ _ => rfl)).1, rfl, trivial⟩, okAll_b (ks := [9000, 20, 10]) w2 (fun k hk => hk) rfl, fun k hk => by rw [hX] at hk; simp at hk⟩ ?_
            intro _ _
            repeat' (first
              | refine r_lendCR (f := 11) (g := g2) rfl w2 rfl rfl Try.call11 rfl rfl cl ?_ | refine r_glendCR (f := 11) (g := g2) rfl w2 rfl rfl rfl rfl Try.call11 rfl rfl cl ?_ | refine r_glendCR (f := 12) (g := g2) rfl w2 rfl rfl rfl rfl Try.call12 rfl rfl cs ?_
              | with_reducible refine t_seq ?_ | with_reducible refine t_region ?_ | with_reducible refine c_nil ?_ | with_reducible refine n_then ?_
              | with_reducible refine t_ret ?_ | with_reducible refine t_skip ?_ | with_reducible refine t_exit ?_ | with_reducible refine t_block ?_
              | with_reducible refine n_block ?_ | with_reducible refine e_then ?_ | with_reducible refine x_then ?_ | with_reducible refine x_block ?_ | with_reducible refine t_draw ?_
              | refine r_val rfl rfl True.intro ?_ | refine r_gskip rfl rfl rfl ?_ | refine r_gskip2 rfl rfl rfl ?_ | refine r_gval rfl rfl rfl rfl True.intro ?_
              | refine t_true rfl ?_ | refine t_false rfl ?_
              | ((first | refine t_cond_d rfl (fun _ => ?_) (fun _ => ?_) | refine t_cond_i rfl (fun _ => ?_) (fun _ => ?_) | refine t_cond_j rfl (fun _ => ?_) (fun _ => ?_) | refine t_cond_s rfl (fun _ => ?_) (fun _ => ?_) | refine t_cond_n rfl (fun _ => ?_) (fun _ => ?_) | refine t_cond rfl (fun _ => ?_) (fun _ => ?_) | refine c_split_d rfl rfl (fun _ => ?_) (fun _ => ?_) | refine c_split_i rfl rfl (fun _ => ?_) (fun _ => ?_) | refine c_split_j rfl rfl (fun _ => ?_) (fun _ => ?_) | refine c_split_s rfl rfl (fun _ => ?_) (fun _ => ?_) | refine c_split_n rfl rfl (fun _ => ?_) (fun _ => ?_)) <;> try (first | contradiction | (exfalso; omega)))
              | refine r_val rfl rfl (by (first | omega | exact ⟨rfl, hby⟩ | exact ⟨rfl, hvb⟩ | exact Nat.le_of_ble_eq_true rfl | ((repeat' refine And.intro ?_ ?_) <;> first | omega | rfl | trivial | exact Nat.le_refl _ | exact Nat.le_of_ble_eq_true rfl))) ?_ | refine r_gval rfl rfl rfl rfl (by (first | omega | exact ⟨rfl, hby⟩ | exact ⟨rfl, hvb⟩ | exact Nat.le_of_ble_eq_true rfl | ((repeat' refine And.intro ?_ ?_) <;> first | omega | rfl | trivial | exact Nat.le_refl _ | exact Nat.le_of_ble_eq_true rfl))) ?_
              | refine r_obj rfl rfl (by (first | omega | exact ⟨rfl, hby⟩ | exact ⟨rfl, hvb⟩ | exact Nat.le_of_ble_eq_true rfl | ((repeat' refine And.intro ?_ ?_) <;> first | omega | rfl | trivial | exact Nat.le_refl _ | exact Nat.le_of_ble_eq_true rfl))) ?_ | refine r_sto rfl (by (first | omega | exact ⟨rfl, hby⟩ | exact ⟨rfl, hvb⟩ | exact Nat.le_of_ble_eq_true rfl | ((repeat' refine And.intro ?_ ?_) <;> first | omega | rfl | trivial | exact Nat.le_refl _ | exact Nat.le_of_ble_eq_true rfl))) ?_ | refine r_gobj rfl rfl rfl rfl (by (first | omega | exact ⟨rfl, hby⟩ | exact ⟨rfl, hvb⟩ | exact Nat.le_of_ble_eq_true rfl | ((repeat' refine And.intro ?_ ?_) <;> first | omega | rfl | trivial | exact Nat.le_refl _ | exact Nat.le_of_ble_eq_true rfl))) ?_
              | refine e_hit rfl ?_ | refine e_miss rfl ?_
              | refine ⟨by kernel_rfl, ?_⟩ | ((with_reducible refine c_grd ?_); (fail_if_success (refine c_lit true rfl rfl rfl ?_)); (fail_if_success (refine c_lit false rfl rfl rfl ?_)); refine c_split rfl rfl (fun _ => ?_) (fun _ => ?_)))
            all_goals exact ⟨(i + 1, g2, getR la (l.getD (i : Int).toNat dAct).key, h, m + 1, P), (⟨H2, by omega, by omega, by omega, by omega, fit2, last2, by first | omega | (simp only [List.length_append, List.length_cons, List.length_nil]; omega)⟩ : BndI l E0 S0 (i + 1) g2 (getR la (l.getD (i : Int).toNat dAct).key) (h) (m + 1) (P)), by dsimp only; omega, ⟨rfl, rfl, rfl, rfl, rfl, congrArg (D.i .i64) (by omega), trivial⟩, leOw_C (own2 := [_]) rfl (le_arr rfl rfl fun _ _ => rfl), okAll_b (ks := [9000, 20]) w2 (fun k hk => hk) rfl, fun k hk => by rw [hX] at hk; simp at hk⟩
          | some v =>
            obtain ⟨g2, c2, H2, n2, o2⟩ := get_some H1 hgv (by omega) (by omega)
            have w2 := H2.wf
            have cl := len_all H2
            have cs := size_all H2
            have hvi := H1.isB _ (getL_mem hgv)
            have hvl := last1 _ (getL_mem hgv)
            obtain ⟨vn, vf, rfl⟩ : ∃ n f, v = .sl 1 n f := ⟨_, _, hvi.1⟩
            have hvb : ∀ j, j < vn → ∃ n, vf j = [.i .u8 n] := hvi.2
            have hvl : lastV (P) (l.getD (i : Int).toNat dAct).key = some (bytesOf vn vf) := hvl
            repeat' (first
              | refine r_lendC (f := 9) (g := g) (g' := g1) rfl n1 w w1 rfl rfl Try.call9 rfl rfl c1 ?_ | refine r_lendC (f := 10) (g := g1) (g' := g2) rfl n2 w1 w2 rfl rfl Try.call10 rfl o2 c2 ?_ | refine r_objL rfl rfl rfl (by first | omega | exact ⟨rfl, hby⟩ | exact ⟨rfl, hvb⟩ | exact Nat.le_of_ble_eq_true rfl | ((repeat' refine And.intro ?_ ?_) <;> first | omega | rfl | trivial | exact Nat.le_refl _ | exact Nat.le_of_ble_eq_true rfl)) ?_
              | with_reducible refine t_seq ?_ | with_reducible refine t_region ?_ | with_reducible refine c_nil ?_ | with_reducible refine n_then ?_
              | with_reducible refine t_ret ?_ | with_reducible refine t_skip ?_ | with_reducible refine t_exit ?_ | with_reducible refine t_block ?_
              | with_reducible refine n_block ?_ | with_reducible refine e_then ?_ | with_reducible refine x_then ?_ | with_reducible refine x_block ?_ | with_reducible refine t_draw ?_
              | refine r_val rfl rfl True.intro ?_ | refine r_gskip rfl rfl rfl ?_ | refine r_gskip2 rfl rfl rfl ?_ | refine r_gval rfl rfl rfl rfl True.intro ?_
              | refine t_true rfl ?_ | refine t_false rfl ?_
              | ((first | refine t_cond_d rfl (fun _ => ?_) (fun _ => ?_) | refine t_cond_i rfl (fun _ => ?_) (fun _ => ?_) | refine t_cond_j rfl (fun _ => ?_) (fun _ => ?_) | refine t_cond_s rfl (fun _ => ?_) (fun _ => ?_) | refine t_cond_n rfl (fun _ => ?_) (fun _ => ?_) | refine t_cond rfl (fun _ => ?_) (fun _ => ?_) | refine c_split_d rfl rfl (fun _ => ?_) (fun _ => ?_) | refine c_split_i rfl rfl (fun _ => ?_) (fun _ => ?_) | refine c_split_j rfl rfl (fun _ => ?_) (fun _ => ?_) | refine c_split_s rfl rfl (fun _ => ?_) (fun _ => ?_) | refine c_split_n rfl rfl (fun _ => ?_) (fun _ => ?_)) <;> try (first | contradiction | (exfalso; omega)))
              | refine r_val rfl rfl (by (first | omega | exact ⟨rfl, hby⟩ | exact ⟨rfl, hvb⟩ | exact Nat.le_of_ble_eq_true rfl | ((repeat' refine And.intro ?_ ?_) <;> first | omega | rfl | trivial | exact Nat.le_refl _ | exact Nat.le_of_ble_eq_true rfl))) ?_ | refine r_gval rfl rfl rfl rfl (by (first | omega | exact ⟨rfl, hby⟩ | exact ⟨rfl, hvb⟩ | exact Nat.le_of_ble_eq_true rfl | ((repeat' refine And.intro ?_ ?_) <;> first | omega | rfl | trivial | exact Nat.le_refl _ | exact Nat.le_of_ble_eq_true rfl))) ?_
              | refine r_obj rfl rfl (by (first | omega | exact ⟨rfl, hby⟩ | exact ⟨rfl, hvb⟩ | exact Nat.le_of_ble_eq_true rfl | ((repeat' refine And.intro ?_ ?_) <;> first | omega | rfl | trivial | exact Nat.le_refl _ | exact Nat.le_of_ble_eq_true rfl))) ?_ | refine r_sto rfl (by (first | omega | exact ⟨rfl, hby⟩ | exact ⟨rfl, hvb⟩ | exact Nat.le_of_ble_eq_true rfl | ((repeat' refine And.intro ?_ ?_) <;> first | omega | rfl | trivial | exact Nat.le_refl _ | exact Nat.le_of_ble_eq_true rfl))) ?_ | refine r_gobj rfl rfl rfl rfl (by (first | omega | exact ⟨rfl, hby⟩ | exact ⟨rfl, hvb⟩ | exact Nat.le_of_ble_eq_true rfl | ((repeat' refine And.intro ?_ ?_) <;> first | omega | rfl | trivial | exact Nat.le_refl _ | exact Nat.le_of_ble_eq_true rfl))) ?_
              | refine e_hit rfl ?_ | refine e_miss rfl ?_
              | refine ⟨by kernel_rfl, ?_⟩ | ((with_reducible refine c_grd ?_); (fail_if_success (refine c_lit true rfl rfl rfl ?_)); (fail_if_success (refine c_lit false rfl rfl rfl ?_)); refine c_split rfl rfl (fun _ => ?_) (fun _ => ?_)))
            refine T.loop hL (fun j : Nat => (10, .pv 10 0) :: (11, .sl 1 vn vf) :: (12, .b true) :: (13, .i .i64 (2 * (j : Int) - 2)) :: bndF l E0 S0 i P) (fun _ => [lastO (P), (10, .var (actC (l.getD (i : Int).toNat dAct)))] ++ objs g2) (fun j => j ≤ (P).length ∧ lastV ((P).take j) (l.getD (i : Int).toNat dAct).key = some (bytesOf vn vf)) (fun j => j) (P).length ⟨Nat.le_refl _, by rw [List.take_length]; exact hvl⟩
              ⟨⟨rfl, rfl, rfl, congrArg (D.i .i64) (by omega), rfl, rfl, rfl, rfl, rfl, rfl, trivial⟩, leOw_C (own2 := [_, _]) rfl ⟨(le_arr rfl rfl (fun _ _ => rfl)).1, rfl, trivial⟩, okAll_b (ks := [9000, 20, 10]) w2 (fun k hk => hk) rfl, fun k hk => by rw [hX] at hk; simp at hk⟩ ?_
            rintro j ⟨hj, hjl⟩
            by_cases hj0 : j = 0
            · subst hj0
              repeat' (first
                | refine r_lendCR (f := 11) (g := g2) rfl w2 rfl rfl Try.call11 rfl rfl cl ?_ | refine r_glendCR (f := 11) (g := g2) rfl w2 rfl rfl rfl rfl Try.call11 rfl rfl cl ?_ | refine r_glendCR (f := 12) (g := g2) rfl w2 rfl rfl rfl rfl Try.call12 rfl rfl cs ?_
                | with_reducible refine t_seq ?_ | with_reducible refine t_region ?_ | with_reducible refine c_nil ?_ | with_reducible refine n_then ?_
                | with_reducible refine t_ret ?_ | with_reducible refine t_skip ?_ | with_reducible refine t_exit ?_ | with_reducible refine t_block ?_
                | with_reducible refine n_block ?_ | with_reducible refine e_then ?_ | with_reducible refine x_then ?_ | with_reducible refine x_block ?_ | with_reducible refine t_draw ?_
                | refine r_val rfl rfl True.intro ?_ | refine r_gskip rfl rfl rfl ?_ | refine r_gskip2 rfl rfl rfl ?_ | refine r_gval rfl rfl rfl rfl True.intro ?_
                | refine t_true rfl ?_ | refine t_false rfl ?_
                | ((first | refine t_cond_d rfl (fun _ => ?_) (fun _ => ?_) | refine t_cond_i rfl (fun _ => ?_) (fun _ => ?_) | refine t_cond_j rfl (fun _ => ?_) (fun _ => ?_) | refine t_cond_s rfl (fun _ => ?_) (fun _ => ?_) | refine t_cond_n rfl (fun _ => ?_) (fun _ => ?_) | refine t_cond rfl (fun _ => ?_) (fun _ => ?_) | refine c_split_d rfl rfl (fun _ => ?_) (fun _ => ?_) | refine c_split_i rfl rfl (fun _ => ?_) (fun _ => ?_) | refine c_split_j rfl rfl (fun _ => ?_) (fun _ => ?_) | refine c_split_s rfl rfl (fun _ => ?_) (fun _ => ?_) | refine c_split_n rfl rfl (fun _ => ?_) (fun _ => ?_)) <;> try (first | contradiction | (exfalso; omega)))
                | refine r_val rfl rfl (by (first | omega | exact ⟨rfl, hby⟩ | exact ⟨rfl, hvb⟩ | exact Nat.le_of_ble_eq_true rfl | ((repeat' refine And.intro ?_ ?_) <;> first | omega | rfl | trivial | exact Nat.le_refl _ | exact Nat.le_of_ble_eq_true rfl))) ?_ | refine r_gval rfl rfl rfl rfl (by (first | omega | exact ⟨rfl, hby⟩ | exact ⟨rfl, hvb⟩ | exact Nat.le_of_ble_eq_true rfl | ((repeat' refine And.intro ?_ ?_) <;> first | omega | rfl | trivial | exact Nat.le_refl _ | exact Nat.le_of_ble_eq_true rfl))) ?_
                | refine r_obj rfl rfl (by (first | omega | exact ⟨rfl, hby⟩ | exact ⟨rfl, hvb⟩ | exact Nat.le_of_ble_eq_true rfl | ((repeat' refine And.intro ?_ ?_) <;> first | omega | rfl | trivial | exact Nat.le_refl _ | exact Nat.le_of_ble_eq_true rfl))) ?_ | refine r_sto rfl (by (first | omega | exact ⟨rfl, hby⟩ | exact ⟨rfl, hvb⟩ | exact Nat.le_of_ble_eq_true rfl | ((repeat' refine And.intro ?_ ?_) <;> first | omega | rfl | trivial | exact Nat.le_refl _ | exact Nat.le_of_ble_eq_true rfl))) ?_ | refine r_gobj rfl rfl rfl rfl (by (first | omega | exact ⟨rfl, hby⟩ | exact ⟨rfl, hvb⟩ | exact Nat.le_of_ble_eq_true rfl | ((repeat' refine And.intro ?_ ?_) <;> first | omega | rfl | trivial | exact Nat.le_refl _ | exact Nat.le_of_ble_eq_true rfl))) ?_
                | refine e_hit rfl ?_ | refine e_miss rfl ?_
                | refine ⟨by kernel_rfl, ?_⟩ | ((with_reducible refine c_grd ?_); (fail_if_success (refine c_lit true rfl rfl rfl ?_)); (fail_if_success (refine c_lit false rfl rfl rfl ?_)); refine c_split rfl rfl (fun _ => ?_) (fun _ => ?_)))
              all_goals exact ⟨(i + 1, g2, getR la (l.getD (i : Int).toNat dAct).key, h + 1, m, P), (⟨H2, by omega, by omega, by omega, by omega, fit2, last2, by first | omega | (simp only [List.length_append, List.length_cons, List.length_nil]; omega)⟩ : BndI l E0 S0 (i + 1) g2 (getR la (l.getD (i : Int).toNat dAct).key) (h + 1) (m) (P)), by dsimp only; omega, ⟨rfl, rfl, rfl, rfl, rfl, congrArg (D.i .i64) (by omega), trivial⟩, leOw_C (own2 := [_]) rfl (le_arr rfl rfl fun _ _ => rfl), okAll_b (ks := [9000, 20]) w2 (fun k hk => hk) rfl, fun k hk => by rw [hX] at hk; simp at hk⟩
            · obtain ⟨q1, q2⟩ := flatP_at (P) (j - 1) (by omega)
              have u1 : (2 * (j : Int) - 2).toNat = 2 * (j - 1) := by omega
              have u2 : (2 * (j : Int) - 2 + 1).toNat = 2 * (j - 1) + 1 := by omega
              rw [show j = j - 1 + 1 by omega, take_snoc (P) (by omega), lastV_snoc] at hjl
              by_cases he : (flatP (P)).getD (2 * (j : Int) - 2).toNat [] = (l.getD (i : Int).toNat dAct).key
              · have he1 : ((P).getD (j - 1) ([], [])).1 = (l.getD (i : Int).toNat dAct).key := by rw [← q1, ← u1]; exact he
                rw [if_pos he1] at hjl
                have he2 : (flatP (P)).getD (2 * (j : Int) - 2 + 1).toNat [] = bytesOf vn vf := by rw [u2, q2]; exact Option.some.inj hjl
                repeat' (first
                  | refine r_lendCR (f := 11) (g := g2) rfl w2 rfl rfl Try.call11 rfl rfl cl ?_ | refine r_glendCR (f := 11) (g := g2) rfl w2 rfl rfl rfl rfl Try.call11 rfl rfl cl ?_ | refine r_glendCR (f := 12) (g := g2) rfl w2 rfl rfl rfl rfl Try.call12 rfl rfl cs ?_
                  | with_reducible refine t_seq ?_ | with_reducible refine t_region ?_ | with_reducible refine c_nil ?_ | with_reducible refine n_then ?_
                  | with_reducible refine t_ret ?_ | with_reducible refine t_skip ?_ | with_reducible refine t_exit ?_ | with_reducible refine t_block ?_
                  | with_reducible refine n_block ?_ | with_reducible refine e_then ?_ | with_reducible refine x_then ?_ | with_reducible refine x_block ?_ | with_reducible refine t_draw ?_
                  | refine r_val rfl rfl True.intro ?_ | refine r_gskip rfl rfl rfl ?_ | refine r_gskip2 rfl rfl rfl ?_ | refine r_gval rfl rfl rfl rfl True.intro ?_
                  | refine t_true rfl ?_ | refine t_false rfl ?_
                  | ((first | refine t_cond_d rfl (fun _ => ?_) (fun _ => ?_) | refine t_cond_i rfl (fun _ => ?_) (fun _ => ?_) | refine t_cond_j rfl (fun _ => ?_) (fun _ => ?_) | refine t_cond_s rfl (fun _ => ?_) (fun _ => ?_) | refine t_cond_n rfl (fun _ => ?_) (fun _ => ?_) | refine t_cond rfl (fun _ => ?_) (fun _ => ?_) | refine c_split_d rfl rfl (fun _ => ?_) (fun _ => ?_) | refine c_split_i rfl rfl (fun _ => ?_) (fun _ => ?_) | refine c_split_j rfl rfl (fun _ => ?_) (fun _ => ?_) | refine c_split_s rfl rfl (fun _ => ?_) (fun _ => ?_) | refine c_split_n rfl rfl (fun _ => ?_) (fun _ => ?_)) <;> try (first | contradiction | (exfalso; omega)))
                  | refine r_val rfl rfl (by (first | omega | exact ⟨rfl, hby⟩ | exact ⟨rfl, hvb⟩ | exact Nat.le_of_ble_eq_true rfl | ((repeat' refine And.intro ?_ ?_) <;> first | omega | rfl | trivial | exact Nat.le_refl _ | exact Nat.le_of_ble_eq_true rfl))) ?_ | refine r_gval rfl rfl rfl rfl (by (first | omega | exact ⟨rfl, hby⟩ | exact ⟨rfl, hvb⟩ | exact Nat.le_of_ble_eq_true rfl | ((repeat' refine And.intro ?_ ?_) <;> first | omega | rfl | trivial | exact Nat.le_refl _ | exact Nat.le_of_ble_eq_true rfl))) ?_
                  | refine r_obj rfl rfl (by (first | omega | exact ⟨rfl, hby⟩ | exact ⟨rfl, hvb⟩ | exact Nat.le_of_ble_eq_true rfl | ((repeat' refine And.intro ?_ ?_) <;> first | omega | rfl | trivial | exact Nat.le_refl _ | exact Nat.le_of_ble_eq_true rfl))) ?_ | refine r_sto rfl (by (first | omega | exact ⟨rfl, hby⟩ | exact ⟨rfl, hvb⟩ | exact Nat.le_of_ble_eq_true rfl | ((repeat' refine And.intro ?_ ?_) <;> first | omega | rfl | trivial | exact Nat.le_refl _ | exact Nat.le_of_ble_eq_true rfl))) ?_ | refine r_gobj rfl rfl rfl rfl (by (first | omega | exact ⟨rfl, hby⟩ | exact ⟨rfl, hvb⟩ | exact Nat.le_of_ble_eq_true rfl | ((repeat' refine And.intro ?_ ?_) <;> first | omega | rfl | trivial | exact Nat.le_refl _ | exact Nat.le_of_ble_eq_true rfl))) ?_
                  | refine e_hit rfl ?_ | refine e_miss rfl ?_
                  | refine ⟨by kernel_rfl, ?_⟩ | refine x_end rfl ?_ | refine n_end rfl ?_ | ((with_reducible refine c_grd ?_); (fail_if_success (refine c_lit true rfl rfl rfl ?_)); (fail_if_success (refine c_lit false rfl rfl rfl ?_)); refine c_split rfl rfl (fun _ => ?_) (fun _ => ?_)))
                all_goals first | (exfalso; rename_i hz; rw [he2] at hz; simp at hz; done) | exact ⟨(i + 1, g2, getR la (l.getD (i : Int).toNat dAct).key, h + 1, m, P), (⟨H2, by omega, by omega, by omega, by omega, fit2, last2, by first | omega | (simp only [List.length_append, List.length_cons, List.length_nil]; omega)⟩ : BndI l E0 S0 (i + 1) g2 (getR la (l.getD (i : Int).toNat dAct).key) (h + 1) (m) (P)), by dsimp only; omega, ⟨rfl, rfl, rfl, rfl, rfl, congrArg (D.i .i64) (by omega), trivial⟩, leOw_C (own2 := [_]) rfl (le_arr rfl rfl fun _ _ => rfl), okAll_b (ks := [9000, 20]) w2 (fun k hk => hk) rfl, fun k hk => by rw [hX] at hk; simp at hk⟩
              · have he1 : ¬ ((P).getD (j - 1) ([], [])).1 = (l.getD (i : Int).toNat dAct).key := by rw [← q1, ← u1]; exact he
                rw [if_neg he1] at hjl
                repeat' (first
                  | refine r_lendCR (f := 11) (g := g2) rfl w2 rfl rfl Try.call11 rfl rfl cl ?_ | refine r_glendCR (f := 11) (g := g2) rfl w2 rfl rfl rfl rfl Try.call11 rfl rfl cl ?_ | refine r_glendCR (f := 12) (g := g2) rfl w2 rfl rfl rfl rfl Try.call12 rfl rfl cs ?_
                  | with_reducible refine t_seq ?_ | with_reducible refine t_region ?_ | with_reducible refine c_nil ?_ | with_reducible refine n_then ?_
                  | with_reducible refine t_ret ?_ | with_reducible refine t_skip ?_ | with_reducible refine t_exit ?_ | with_reducible refine t_block ?_
                  | with_reducible refine n_block ?_ | with_reducible refine e_then ?_ | with_reducible refine x_then ?_ | with_reducible refine x_block ?_ | with_reducible refine t_draw ?_
                  | refine r_val rfl rfl True.intro ?_ | refine r_gskip rfl rfl rfl ?_ | refine r_gskip2 rfl rfl rfl ?_ | refine r_gval rfl rfl rfl rfl True.intro ?_
                  | refine t_true rfl ?_ | refine t_false rfl ?_
                  | ((first | refine t_cond_d rfl (fun _ => ?_) (fun _ => ?_) | refine t_cond_i rfl (fun _ => ?_) (fun _ => ?_) | refine t_cond_j rfl (fun _ => ?_) (fun _ => ?_) | refine t_cond_s rfl (fun _ => ?_) (fun _ => ?_) | refine t_cond_n rfl (fun _ => ?_) (fun _ => ?_) | refine t_cond rfl (fun _ => ?_) (fun _ => ?_) | refine c_split_d rfl rfl (fun _ => ?_) (fun _ => ?_) | refine c_split_i rfl rfl (fun _ => ?_) (fun _ => ?_) | refine c_split_j rfl rfl (fun _ => ?_) (fun _ => ?_) | refine c_split_s rfl rfl (fun _ => ?_) (fun _ => ?_) | refine c_split_n rfl rfl (fun _ => ?_) (fun _ => ?_)) <;> try (first | contradiction | (exfalso; omega)))
                  | refine r_val rfl rfl (by (first | omega | exact ⟨rfl, hby⟩ | exact ⟨rfl, hvb⟩ | exact Nat.le_of_ble_eq_true rfl | ((repeat' refine And.intro ?_ ?_) <;> first | omega | rfl | trivial | exact Nat.le_refl _ | exact Nat.le_of_ble_eq_true rfl))) ?_ | refine r_gval rfl rfl rfl rfl (by (first | omega | exact ⟨rfl, hby⟩ | exact ⟨rfl, hvb⟩ | exact Nat.le_of_ble_eq_true rfl | ((repeat' refine And.intro ?_ ?_) <;> first | omega | rfl | trivial | exact Nat.le_refl _ | exact Nat.le_of_ble_eq_true rfl))) ?_
                  | refine r_obj rfl rfl (by (first | omega | exact ⟨rfl, hby⟩ | exact ⟨rfl, hvb⟩ | exact Nat.le_of_ble_eq_true rfl | ((repeat' refine And.intro ?_ ?_) <;> first | omega | rfl | trivial | exact Nat.le_refl _ | exact Nat.le_of_ble_eq_true rfl))) ?_ | refine r_sto rfl (by (first | omega | exact ⟨rfl, hby⟩ | exact ⟨rfl, hvb⟩ | exact Nat.le_of_ble_eq_true rfl | ((repeat' refine And.intro ?_ ?_) <;> first | omega | rfl | trivial | exact Nat.le_refl _ | exact Nat.le_of_ble_eq_true rfl))) ?_ | refine r_gobj rfl rfl rfl rfl (by (first | omega | exact ⟨rfl, hby⟩ | exact ⟨rfl, hvb⟩ | exact Nat.le_of_ble_eq_true rfl | ((repeat' refine And.intro ?_ ?_) <;> first | omega | rfl | trivial | exact Nat.le_refl _ | exact Nat.le_of_ble_eq_true rfl))) ?_
                  | refine e_hit rfl ?_ | refine e_miss rfl ?_
                  | refine ⟨by kernel_rfl, ?_⟩ | ((with_reducible refine c_grd ?_); (fail_if_success (refine c_lit true rfl rfl rfl ?_)); (fail_if_success (refine c_lit false rfl rfl rfl ?_)); refine c_split rfl rfl (fun _ => ?_) (fun _ => ?_)))
                all_goals exact ⟨j - 1, ⟨by omega, hjl⟩, by omega, ⟨rfl, rfl, rfl, congrArg (D.i .i64) (by omega), rfl, rfl, rfl, rfl, rfl, rfl, trivial⟩, leOw_C (own2 := [_, _]) rfl ⟨(le_arr rfl rfl fun _ _ => rfl).1, rfl, trivial⟩, okAll_b (ks := [9000, 20, 10]) w2 (fun k hk => hk) rfl, fun k hk => by rw [hX] at hk; simp at hk⟩
      · have H1 := H
        have w1 := w
        have fit1 := hfit
        have last1 := hlast
        have hfl1 := flatP_len P
        have fit2 := getR_fit (l.getD (i : Int).toNat dAct).key fit1
        have last2 := last_get (k := (l.getD (i : Int).toNat dAct).key) last1
        have sum2 := getR_sum la (l.getD (i : Int).toNat dAct).key
        cases hgv : getL la (l.getD (i : Int).toNat dAct).key with
        | none =>
          obtain ⟨g2, c2, H2, n2⟩ := get_none H1 hgv (by omega) (by omega)
          have w2 := H2.wf
          have cl := len_all H2
          have cs := size_all H2
          repeat' (first
            | refine r_lendC (f := 10) (g := g) (g' := g2) rfl n2 w1 w2 rfl rfl Try.call10 rfl rfl c2 ?_ | refine r_objL rfl rfl rfl (by first | omega | exact ⟨rfl, hby⟩ | exact ⟨rfl, hvb⟩ | exact Nat.le_of_ble_eq_true rfl | ((repeat' refine And.intro ?_ ?_) <;> first | omega | rfl | trivial | exact Nat.le_refl _ | exact Nat.le_of_ble_eq_true rfl)) ?_
            | with_reducible refine t_seq ?_ | with_reducible refine t_region ?_ | with_reducible refine c_nil ?_ | with_reducible refine n_then ?_
            | with_reducible refine t_ret ?_ | with_reducible refine t_skip ?_ | with_reducible refine t_exit ?_ | with_reducible refine t_block ?_
            | with_reducible refine n_block ?_ | with_reducible refine e_then ?_ | with_reducible refine x_then ?_ | with_reducible refine x_block ?_ | with_reducible refine t_draw ?_
            | refine r_val rfl rfl True.intro ?_ | refine r_gskip rfl rfl rfl ?_ | refine r_gskip2 rfl rfl rfl ?_ | refine r_gval rfl rfl rfl rfl True.intro ?_
            | refine t_true rfl ?_ | refine t_false rfl ?_
            | ((first | refine t_cond_d rfl (fun _ => ?_) (fun _ => ?_) | refine t_cond_i rfl (fun _ => ?_) (fun _ => ?_) | refine t_cond_j rfl (fun _ => ?_) (fun _ => ?_) | refine t_cond_s rfl (fun _ => ?_) (fun _ => ?_) | refine t_cond_n rfl (fun _ => ?_) (fun _ => ?_) | refine t_cond rfl (fun _ => ?_) (fun _ => ?_) | refine c_split_d rfl rfl (fun _ => ?_) (fun _ => ?_) | refine c_split_i rfl rfl (fun _ => ?_) (fun _ => ?_) | refine c_split_j rfl rfl (fun _ => ?_) (fun _ => ?_) | refine c_split_s rfl rfl (fun _ => ?_) (fun _ => ?_) | refine c_split_n rfl rfl (fun _ => ?_) (fun _ => ?_)) <;> try (first | contradiction | (exfalso; omega)))
            | refine r_val rfl rfl (by (first | omega | exact ⟨rfl, hby⟩ | exact ⟨rfl, hvb⟩ | exact Nat.le_of_ble_eq_true rfl | ((repeat' refine And.intro ?_ ?_) <;> first | omega | rfl | trivial | exact Nat.le_refl _ | exact Nat.le_of_ble_eq_true rfl))) ?_ | refine r_gval rfl rfl rfl rfl (by (first | omega | exact ⟨rfl, hby⟩ | exact ⟨rfl, hvb⟩ | exact Nat.le_of_ble_eq_true rfl | ((repeat' refine And.intro ?_ ?_) <;> first | omega | rfl | trivial | exact Nat.le_refl _ | exact Nat.le_of_ble_eq_true rfl))) ?_
            | refine r_obj rfl rfl (by (first | omega | exact ⟨rfl, hby⟩ | exact ⟨rfl, hvb⟩ | exact Nat.le_of_ble_eq_true rfl | ((repeat' refine And.intro ?_ ?_) <;> first | omega | rfl | trivial | exact Nat.le_refl _ | exact Nat.le_of_ble_eq_true rfl))) ?_ | refine r_sto rfl (by (first | omega | exact ⟨rfl, hby⟩ | exact ⟨rfl, hvb⟩ | exact Nat.le_of_ble_eq_true rfl | ((repeat' refine And.intro ?_ ?_) <;> first | omega | rfl | trivial | exact Nat.le_refl _ | exact Nat.le_of_ble_eq_true rfl))) ?_ | refine r_gobj rfl rfl rfl rfl (by (first | omega | exact ⟨rfl, hby⟩ | exact ⟨rfl, hvb⟩ | exact Nat.le_of_ble_eq_true rfl | ((repeat' refine And.intro ?_ ?_) <;> first | omega | rfl | trivial | exact Nat.le_refl _ | exact Nat.le_of_ble_eq_true rfl))) ?_
            | refine e_hit rfl ?_ | refine e_miss rfl ?_
            | refine ⟨by kernel_rfl, ?_⟩ | ((with_reducible refine c_grd ?_); (fail_if_success (refine c_lit true rfl rfl rfl ?_)); (fail_if_success (refine c_lit false rfl rfl rfl ?_)); refine c_split rfl rfl (fun _ => ?_) (fun _ => ?_)))
          refine T.loop hL (fun _ : Unit => (12, .b false) :: (13, .i .i64 (2 * ((P).length : Int) - 2)) :: bndF l E0 S0 i P) (fun _ => [lastO (P), (10, .var (actC (l.getD (i : Int).toNat dAct)))] ++ objs g2) (fun _ => True) (fun _ => 0) () trivial
            ⟨⟨rfl, congrArg (D.i .i64) (by omega), rfl, rfl, rfl, rfl, rfl, rfl, trivial⟩, leOw_C (own2 := [_, _]) rfl ⟨(le_arr rfl rfl (fun _ _ => rfl)).1, rfl, trivial⟩, okAll_b (ks := [9000, 20, 10]) w2 (fun k hk => hk) rfl, fun k hk => by rw [hX] at hk; simp at hk⟩ ?_
          intro _ _
          repeat' (first
            | refine r_lendCR (f := 11) (g := g2) rfl w2 rfl rfl Try.call11 rfl rfl cl ?_ | refine r_glendCR (f := 11) (g := g2) rfl w2 rfl rfl rfl rfl Try.call11 rfl rfl cl ?_ | refine r_glendCR (f := 12) (g := g2) rfl w2 rfl rfl rfl rfl Try.call12 rfl rfl cs ?_
            | with_reducible refine t_seq ?_ | with_reducible refine t_region ?_ | with_reducible refine c_nil ?_ | with_reducible refine n_then ?_
            | with_reducible refine t_ret ?_ | with_reducible refine t_skip ?_ | with_reducible refine t_exit ?_ | with_reducible refine t_block ?_
            | with_reducible refine n_block ?_ | with_reducible refine e_then ?_ | with_reducible refine x_then ?_ | with_reducible refine x_block ?_ | with_reducible refine t_draw ?_
            | refine r_val rfl rfl True.intro ?_ | refine r_gskip rfl rfl rfl ?_ | refine r_gskip2 rfl rfl rfl ?_ | refine r_gval rfl rfl rfl rfl True.intro ?_
            | refine t_true rfl ?_ | refine t_false rfl ?_
            | ((first | refine t_cond_d rfl (fun _ => ?_) (fun _ => ?_) | refine t_cond_i rfl (fun _ => ?_) (fun _ => ?_) | refine t_cond_j rfl (fun _ => ?_) (fun _ => ?_) | refine t_cond_s rfl (fun _ => ?_) (fun _ => ?_) | refine t_cond_n rfl (fun _ => ?_) (fun _ => ?_) | refine t_cond rfl (fun _ => ?_) (fun _ => ?_) | refine c_split_d rfl rfl (fun _ => ?_) (fun _ => ?_) | refine c_split_i rfl rfl (fun _ => ?_) (fun _ => ?_) | refine c_split_j rfl rfl (fun _ => ?_) (fun _ => ?_) | refine c_split_s rfl rfl (fun _ => ?_) (fun _ => ?_) | refine c_split_n rfl rfl (fun _ => ?_) (fun _ => ?_)) <;> try (first | contradiction | (exfalso; omega)))
            | refine r_val rfl rfl (by (first | omega | exact ⟨rfl, hby⟩ | exact ⟨rfl, hvb⟩ | exact Nat.le_of_ble_eq_true rfl | ((repeat' refine And.intro ?_ ?_) <;> first | omega | rfl | trivial | exact Nat.le_refl _ | exact Nat.le_of_ble_eq_true rfl))) ?_ | refine r_gval rfl rfl rfl rfl (by (first | omega | exact ⟨rfl, hby⟩ | exact ⟨rfl, hvb⟩ | exact Nat.le_of_ble_eq_true rfl | ((repeat' refine And.intro ?_ ?_) <;> first | omega | rfl | trivial | exact Nat.le_refl _ | exact Nat.le_of_ble_eq_true rfl))) ?_
            | refine r_obj rfl rfl (by (first | omega | exact ⟨rfl, hby⟩ | exact ⟨rfl, hvb⟩ | exact Nat.le_of_ble_eq_true rfl | ((repeat' refine And.intro ?_ ?_) <;> first | omega | rfl | trivial | exact Nat.le_refl _ | exact Nat.le_of_ble_eq_true rfl))) ?_ | refine r_sto rfl (by (first | omega | exact ⟨rfl, hby⟩ | exact ⟨rfl, hvb⟩ | exact Nat.le_of_ble_eq_true rfl | ((repeat' refine And.intro ?_ ?_) <;> first | omega | rfl | trivial | exact Nat.le_refl _ | exact Nat.le_of_ble_eq_true rfl))) ?_ | refine r_gobj rfl rfl rfl rfl (by (first | omega | exact ⟨rfl, hby⟩ | exact ⟨rfl, hvb⟩ | exact Nat.le_of_ble_eq_true rfl | ((repeat' refine And.intro ?_ ?_) <;> first | omega | rfl | trivial | exact Nat.le_refl _ | exact Nat.le_of_ble_eq_true rfl))) ?_
            | refine e_hit rfl ?_ | refine e_miss rfl ?_
            | refine ⟨by kernel_rfl, ?_⟩ | ((with_reducible refine c_grd ?_); (fail_if_success (refine c_lit true rfl rfl rfl ?_)); (fail_if_success (refine c_lit false rfl rfl rfl ?_)); refine c_split rfl rfl (fun _ => ?_) (fun _ => ?_)))
          all_goals exact ⟨(i + 1, g2, getR la (l.getD (i : Int).toNat dAct).key, h, m + 1, P), (⟨H2, by omega, by omega, by omega, by omega, fit2, last2, by first | omega | (simp only [List.length_append, List.length_cons, List.length_nil]; omega)⟩ : BndI l E0 S0 (i + 1) g2 (getR la (l.getD (i : Int).toNat dAct).key) (h) (m + 1) (P)), by dsimp only; omega, ⟨rfl, rfl, rfl, rfl, rfl, congrArg (D.i .i64) (by omega), trivial⟩, leOw_C (own2 := [_]) rfl (le_arr rfl rfl fun _ _ => rfl), okAll_b (ks := [9000, 20]) w2 (fun k hk => hk) rfl, fun k hk => by rw [hX] at hk; simp at hk⟩
        | some v =>
          obtain ⟨g2, c2, H2, n2, o2⟩ := get_some H1 hgv (by omega) (by omega)
          have w2 := H2.wf
          have cl := len_all H2
          have cs := size_all H2
          have hvi := H1.isB _ (getL_mem hgv)
          have hvl := last1 _ (getL_mem hgv)
          obtain ⟨vn, vf, rfl⟩ : ∃ n f, v = .sl 1 n f := ⟨_, _, hvi.1⟩
          have hvb : ∀ j, j < vn → ∃ n, vf j = [.i .u8 n] := hvi.2
          have hvl : lastV (P) (l.getD (i : Int).toNat dAct).key = some (bytesOf vn vf) := hvl
          repeat' (first
            | refine r_lendC (f := 10) (g := g) (g' := g2) rfl n2 w1 w2 rfl rfl Try.call10 rfl o2 c2 ?_ | refine r_objL rfl rfl rfl (by first | omega | exact ⟨rfl, hby⟩ | exact ⟨rfl, hvb⟩ | exact Nat.le_of_ble_eq_true rfl | ((repeat' refine And.intro ?_ ?_) <;> first | omega | rfl | trivial | exact Nat.le_refl _ | exact Nat.le_of_ble_eq_true rfl)) ?_
            | with_reducible refine t_seq ?_ | with_reducible refine t_region ?_ | with_reducible refine c_nil ?_ | with_reducible refine n_then ?_
            | with_reducible refine t_ret ?_ | with_reducible refine t_skip ?_ | with_reducible refine t_exit ?_ | with_reducible refine t_block ?_
            | with_reducible refine n_block ?_ | with_reducible refine e_then ?_ | with_reducible refine x_then ?_ | with_reducible refine x_block ?_ | with_reducible refine t_draw ?_
            | refine r_val rfl rfl True.intro ?_ | refine r_gskip rfl rfl rfl ?_ | refine r_gskip2 rfl rfl rfl ?_ | refine r_gval rfl rfl rfl rfl True.intro ?_
            | refine t_true rfl ?_ | refine t_false rfl ?_
            | ((first | refine t_cond_d rfl (fun _ => ?_) (fun _ => ?_) | refine t_cond_i rfl (fun _ => ?_) (fun _ => ?_) | refine t_cond_j rfl (fun _ => ?_) (fun _ => ?_) | refine t_cond_s rfl (fun _ => ?_) (fun _ => ?_) | refine t_cond_n rfl (fun _ => ?_) (fun _ => ?_) | refine t_cond rfl (fun _ => ?_) (fun _ => ?_) | refine c_split_d rfl rfl (fun _ => ?_) (fun _ => ?_) | refine c_split_i rfl rfl (fun _ => ?_) (fun _ => ?_) | refine c_split_j rfl rfl (fun _ => ?_) (fun _ => ?_) | refine c_split_s rfl rfl (fun _ => ?_) (fun _ => ?_) | refine c_split_n rfl rfl (fun _ => ?_) (fun _ => ?_)) <;> try (first | contradiction | (exfalso; omega)))
            | refine r_val rfl rfl (by (first | omega | exact ⟨rfl, hby⟩ | exact ⟨rfl, hvb⟩ | exact Nat.le_of_ble_eq_true rfl | ((repeat' refine And.intro ?_ ?_) <;> first | omega | rfl | trivial | exact Nat.le_refl _ | exact Nat.le_of_ble_eq_true rfl))) ?_ | refine r_gval rfl rfl rfl rfl (by (first | omega | exact ⟨rfl, hby⟩ | exact ⟨rfl, hvb⟩ | exact Nat.le_of_ble_eq_true rfl | ((repeat' refine And.intro ?_ ?_) <;> first | omega | rfl | trivial | exact Nat.le_refl _ | exact Nat.le_of_ble_eq_true rfl))) ?_
            | refine r_obj rfl rfl (by (first | omega | exact ⟨rfl, hby⟩ | exact ⟨rfl, hvb⟩ | exact Nat.le_of_ble_eq_true rfl | ((repeat' refine And.intro ?_ ?_) <;> first | omega | rfl | trivial | exact Nat.le_refl _ | exact Nat.le_of_ble_eq_true rfl))) ?_ | refine r_sto rfl (by (first | omega | exact ⟨rfl, hby⟩ | exact ⟨rfl, hvb⟩ | exact Nat.le_of_ble_eq_true rfl | ((repeat' refine And.intro ?_ ?_) <;> first | omega | rfl | trivial | exact Nat.le_refl _ | exact Nat.le_of_ble_eq_true rfl))) ?_ | refine r_gobj rfl rfl rfl rfl (by (first | omega | exact ⟨rfl, hby⟩ | exact ⟨rfl, hvb⟩ | exact Nat.le_of_ble_eq_true rfl | ((repeat' refine And.intro ?_ ?_) <;> first | omega | rfl | trivial | exact Nat.le_refl _ | exact Nat.le_of_ble_eq_true rfl))) ?_
            | refine e_hit rfl ?_ | refine e_miss rfl ?_
            | refine ⟨by kernel_rfl, ?_⟩ | ((with_reducible refine c_grd ?_); (fail_if_success (refine c_lit true rfl rfl rfl ?_)); (fail_if_success (refine c_lit false rfl rfl rfl ?_)); refine c_split rfl rfl (fun _ => ?_) (fun _ => ?_)))
          refine T.loop hL (fun j : Nat => (10, .pv 10 0) :: (11, .sl 1 vn vf) :: (12, .b true) :: (13, .i .i64 (2 * (j : Int) - 2)) :: bndF l E0 S0 i P) (fun _ => [lastO (P), (10, .var (actC (l.getD (i : Int).toNat dAct)))] ++ objs g2) (fun j => j ≤ (P).length ∧ lastV ((P).take j) (l.getD (i : Int).toNat dAct).key = some (bytesOf vn vf)) (fun j => j) (P).length ⟨Nat.le_refl _, by rw [List.take_length]; exact hvl⟩
            ⟨⟨rfl, rfl, rfl, congrArg (D.i .i64) (by omega), rfl, rfl, rfl, rfl, rfl, rfl, trivial⟩, leOw_C (own2 := [_, _]) rfl ⟨(le_arr rfl rfl (fun _ _ => rfl)).1, rfl, trivial⟩, okAll_b (ks := [9000, 20, 10]) w2 (fun k hk => hk) rfl, fun k hk => by rw [hX] at hk; simp at hk⟩ ?_
          rintro j ⟨hj, hjl⟩
          by_cases hj0 : j = 0
          · subst hj0
            repeat' (first
              | refine r_lendCR (f := 11) (g := g2) rfl w2 rfl rfl Try.call11 rfl rfl cl ?_ | refine r_glendCR (f := 11) (g := g2) rfl w2 rfl rfl rfl rfl Try.call11 rfl rfl cl ?_ | refine r_glendCR (f := 12) (g := g2) rfl w2 rfl rfl rfl rfl Try.call12 rfl rfl cs ?_
              | with_reducible refine t_seq ?_ | with_reducible refine t_region ?_ | with_reducible refine c_nil ?_ | with_reducible refine n_then ?_
              | with_reducible refine t_ret ?_ | with_reducible refine t_skip ?_ | with_reducible refine t_exit ?_ | with_reducible refine t_block ?_
              | with_reducible refine n_block ?_ | with_reducible refine e_then ?_ | with_reducible refine x_then ?_ | with_reducible refine x_block ?_ | with_reducible refine t_draw ?_
              | refine r_val rfl rfl True.intro ?_ | refine r_gskip rfl rfl rfl ?_ | refine r_gskip2 rfl rfl rfl ?_ | refine r_gval rfl rfl rfl rfl True.intro ?_
              | refine t_true rfl ?_ | refine t_false rfl ?_
              | ((first | refine t_cond_d rfl (fun _ => ?_) (fun _ => ?_) | refine t_cond_i rfl (fun _ => ?_) (fun _ => ?_) | refine t_cond_j rfl (fun _ => ?_) (fun _ => ?_) | refine t_cond_s rfl (fun _ => ?_) (fun _ => ?_) | refine t_cond_n rfl (fun _ => ?_) (fun _ => ?_) | refine t_cond rfl (fun _ => ?_) (fun _ => ?_) | refine c_split_d rfl rfl (fun _ => ?_) (fun _ => ?_) | refine c_split_i rfl rfl (fun _ => ?_) (fun _ => ?_) | refine c_split_j rfl rfl (fun _ => ?_) (fun _ => ?_) | refine c_split_s rfl rfl (fun _ => ?_) (fun _ => ?_) | refine c_split_n rfl rfl (fun _ => ?_) (fun _ => ?_)) <;> try (first | contradiction | (exfalso; omega)))
              | refine r_val rfl rfl (by (first | omega | exact ⟨rfl, hby⟩ | exact ⟨rfl, hvb⟩ | exact Nat.le_of_ble_eq_true rfl | ((repeat' refine And.intro ?_ ?_) <;> first | omega | rfl | trivial | exact Nat.le_refl _ | exact Nat.le_of_ble_eq_true rfl))) ?_ | refine r_gval rfl rfl rfl rfl (by (first | omega | exact ⟨rfl, hby⟩ | exact ⟨rfl, hvb⟩ | exact Nat.le_of_ble_eq_true rfl | ((repeat' refine And.intro ?_ ?_) <;> first | omega | rfl | trivial | exact Nat.le_refl _ | exact Nat.le_of_ble_eq_true rfl))) ?_
              | refine r_obj rfl rfl (by (first | omega | exact ⟨rfl, hby⟩ | exact ⟨rfl, hvb⟩ | exact Nat.le_of_ble_eq_true rfl | ((repeat' refine And.intro ?_ ?_) <;> first | omega | rfl | trivial | exact Nat.le_refl _ | exact Nat.le_of_ble_eq_true rfl))) ?_ | refine r_sto rfl (by (first | omega | exact ⟨rfl, hby⟩ | exact ⟨rfl, hvb⟩ | exact Nat.le_of_ble_eq_true rfl | ((repeat' refine And.intro ?_ ?_) <;> first | omega | rfl | trivial | exact Nat.le_refl _ | exact Nat.le_of_ble_eq_true rfl))) ?_ | refine r_gobj rfl rfl rfl rfl (by (first | omega | exact ⟨rfl, hby⟩ | exact ⟨rfl, hvb⟩ | exact Nat.le_of_ble_eq_true rfl | ((repeat' refine And.intro ?_ ?_) <;> first | omega | rfl | trivial | exact Nat.le_refl _ | exact Nat.le_of_ble_eq_true rfl))) ?_
              | refine e_hit rfl ?_ | refine e_miss rfl ?_
              | refine ⟨by kernel_rfl, ?_⟩ | ((with_reducible refine c_grd ?_); (fail_if_success (refine c_lit true rfl rfl rfl ?_)); (fail_if_success (refine c_lit false rfl rfl rfl ?_)); refine c_split rfl rfl (fun _ => ?_) (fun _ => ?_)))
            all_goals exact ⟨(i + 1, g2, getR la (l.getD (i : Int).toNat dAct).key, h + 1, m, P), (⟨H2, by omega, by omega, by omega, by omega, fit2, last2, by first | omega | (simp only [List.length_append, List.length_cons, List.length_nil]; omega)⟩ : BndI l E0 S0 (i + 1) g2 (getR la (l.getD (i : Int).toNat dAct).key) (h + 1) (m) (P)), by dsimp only; omega, ⟨rfl, rfl, rfl, rfl, rfl, congrArg (D.i .i64) (by omega), trivial⟩, leOw_C (own2 := [_]) rfl (le_arr rfl rfl fun _ _ => rfl), okAll_b (ks := [9000, 20]) w2 (fun k hk => hk) rfl, fun k hk => by rw [hX] at hk; simp at hk⟩
          · obtain ⟨q1, q2⟩ := flatP_at (P) (j - 1) (by omega)
            have u1 : (2 * (j : Int) - 2).toNat = 2 * (j - 1) := by omega
            have u2 : (2 * (j : Int) - 2 + 1).toNat = 2 * (j - 1) + 1 := by omega
            rw [show j = j - 1 + 1 by omega, take_snoc (P) (by omega), lastV_snoc] at hjl
            by_cases he : (flatP (P)).getD (2 * (j : Int) - 2).toNat [] = (l.getD (i : Int).toNat dAct).key
            · have he1 : ((P).getD (j - 1) ([], [])).1 = (l.getD (i : Int).toNat dAct).key := by rw [← q1, ← u1]; exact he
              rw [if_pos he1] at hjl
              have he2 : (flatP (P)).getD (2 * (j : Int) - 2 + 1).toNat [] = bytesOf vn vf := by rw [u2, q2]; exact Option.some.inj hjl
              repeat' (first
                | refine r_lendCR (f := 11) (g := g2) rfl w2 rfl rfl Try.call11 rfl rfl cl ?_ | refine r_glendCR (f := 11) (g := g2) rfl w2 rfl rfl rfl rfl Try.call11 rfl rfl cl ?_ | refine r_glendCR (f := 12) (g := g2) rfl w2 rfl rfl rfl rfl Try.call12 rfl rfl cs ?_
                | with_reducible refine t_seq ?_ | with_reducible refine t_region ?_ | with_reducible refine c_nil ?_ | with_reducible refine n_then ?_
                | with_reducible refine t_ret ?_ | with_reducible refine t_skip ?_ | with_reducible refine t_exit ?_ | with_reducible refine t_block ?_
                | with_reducible refine n_block ?_ | with_reducible refine e_then ?_ | with_reducible refine x_then ?_ | with_reducible refine x_block ?_ | with_reducible refine t_draw ?_
                | refine r_val rfl rfl True.intro ?_ | refine r_gskip rfl rfl rfl ?_ | refine r_gskip2 rfl rfl rfl ?_ | refine r_gval rfl rfl rfl rfl True.intro ?_
                | refine t_true rfl ?_ | refine t_false rfl ?_
                | ((first | refine t_cond_d rfl (fun _ => ?_) (fun _ => ?_) | refine t_cond_i rfl (fun _ => ?_) (fun _ => ?_) | refine t_cond_j rfl (fun _ => ?_) (fun _ => ?_) | refine t_cond_s rfl (fun _ => ?_) (fun _ => ?_) | refine t_cond_n rfl (fun _ => ?_) (fun _ => ?_) | refine t_cond rfl (fun _ => ?_) (fun _ => ?_) | refine c_split_d rfl rfl (fun _ => ?_) (fun _ => ?_) | refine c_split_i rfl rfl (fun _ => ?_) (fun _ => ?_) | refine c_split_j rfl rfl (fun _ => ?_) (fun _ => ?_) | refine c_split_s rfl rfl (fun _ => ?_) (fun _ => ?_) | refine c_split_n rfl rfl (fun _ => ?_) (fun _ => ?_)) <;> try (first | contradiction | (exfalso; omega)))
                | refine r_val rfl rfl (by (first | omega | exact ⟨rfl, hby⟩ | exact ⟨rfl, hvb⟩ | exact Nat.le_of_ble_eq_true rfl | ((repeat' refine And.intro ?_ ?_) <;> first | omega | rfl | trivial | exact Nat.le_refl _ | exact Nat.le_of_ble_eq_true rfl))) ?_ | refine r_gval rfl rfl rfl rfl (by (first | omega | exact ⟨rfl, hby⟩ | exact ⟨rfl, hvb⟩ | exact Nat.le_of_ble_eq_true rfl | ((repeat' refine And.intro ?_ ?_) <;> first | omega | rfl | trivial | exact Nat.le_refl _ | exact Nat.le_of_ble_eq_true rfl))) ?_
                | refine r_obj rfl rfl (by (first | omega | exact ⟨rfl, hby⟩ | exact ⟨rfl, hvb⟩ | exact Nat.le_of_ble_eq_true rfl | ((repeat' refine And.intro ?_ ?_) <;> first | omega | rfl | trivial | exact Nat.le_refl _ | exact Nat.le_of_ble_eq_true rfl))) ?_ | refine r_sto rfl (by (first | omega | exact ⟨rfl, hby⟩ | exact ⟨rfl, hvb⟩ | exact Nat.le_of_ble_eq_true rfl | ((repeat' refine And.intro ?_ ?_) <;> first | omega | rfl | trivial | exact Nat.le_refl _ | exact Nat.le_of_ble_eq_true rfl))) ?_ | refine r_gobj rfl rfl rfl rfl (by (first | omega | exact ⟨rfl, hby⟩ | exact ⟨rfl, hvb⟩ | exact Nat.le_of_ble_eq_true rfl | ((repeat' refine And.intro ?_ ?_) <;> first | omega | rfl | trivial | exact Nat.le_refl _ | exact Nat.le_of_ble_eq_true rfl))) ?_
                | refine e_hit rfl ?_ | refine e_miss rfl ?_
                | refine ⟨by kernel_rfl, ?_⟩ | refine x_end rfl ?_ | refine n_end rfl ?_ | ((with_reducible refine c_grd ?_); (fail_if_success (refine c_lit true rfl rfl rfl ?_)); (fail_if_success (refine c_lit false rfl rfl rfl ?_)); refine c_split rfl rfl (fun _ => ?_) (fun _ => ?_)))
              all_goals first | (exfalso; rename_i hz; rw [he2] at hz; simp at hz; done) | exact ⟨(i + 1, g2, getR la (l.getD (i : Int).toNat dAct).key, h + 1, m, P), (⟨H2, by omega, by omega, by omega, by omega, fit2, last2, by first | omega | (simp only [List.length_append, List.length_cons, List.length_nil]; omega)⟩ : BndI l E0 S0 (i + 1) g2 (getR la (l.getD (i : Int).toNat dAct).key) (h + 1) (m) (P)), by dsimp only; omega, ⟨rfl, rfl, rfl, rfl, rfl, congrArg (D.i .i64) (by omega), trivial⟩, leOw_C (own2 := [_]) rfl (le_arr rfl rfl fun _ _ => rfl), okAll_b (ks := [9000, 20]) w2 (fun k hk => hk) rfl, fun k hk => by rw [hX] at hk; simp at hk⟩
            · have he1 : ¬ ((P).getD (j - 1) ([], [])).1 = (l.getD (i : Int).toNat dAct).key := by rw [← q1, ← u1]; exact he
              rw [if_neg he1] at hjl
              repeat' (first
                | refine r_lendCR (f := 11) (g := g2) rfl w2 rfl rfl Try.call11 rfl rfl cl ?_ | refine r_glendCR (f := 11) (g := g2) rfl w2 rfl rfl rfl rfl Try.call11 rfl rfl cl ?_ | refine r_glendCR (f := 12) (g := g2) rfl w2 rfl rfl rfl rfl Try.call12 rfl rfl cs ?_
                | with_reducible refine t_seq ?_ | with_reducible refine t_region ?_ | with_reducible refine c_nil ?_ | with_reducible refine n_then ?_
                | with_reducible refine t_ret ?_ | with_reducible refine t_skip ?_ | with_reducible refine t_exit ?_ | with_reducible refine t_block ?_
                | with_reducible refine n_block ?_ | with_reducible refine e_then ?_ | with_reducible refine x_then ?_ | with_reducible refine x_block ?_ | with_reducible refine t_draw ?_
                | refine r_val rfl rfl True.intro ?_ | refine r_gskip rfl rfl rfl ?_ | refine r_gskip2 rfl rfl rfl ?_ | refine r_gval rfl rfl rfl rfl True.intro ?_
                | refine t_true rfl ?_ | refine t_false rfl ?_
                | ((first | refine t_cond_d rfl (fun _ => ?_) (fun _ => ?_) | refine t_cond_i rfl (fun _ => ?_) (fun _ => ?_) | refine t_cond_j rfl (fun _ => ?_) (fun _ => ?_) | refine t_cond_s rfl (fun _ => ?_) (fun _ => ?_) | refine t_cond_n rfl (fun _ => ?_) (fun _ => ?_) | refine t_cond rfl (fun _ => ?_) (fun _ => ?_) | refine c_split_d rfl rfl (fun _ => ?_) (fun _ => ?_) | refine c_split_i rfl rfl (fun _ => ?_) (fun _ => ?_) | refine c_split_j rfl rfl (fun _ => ?_) (fun _ => ?_) | refine c_split_s rfl rfl (fun _ => ?_) (fun _ => ?_) | refine c_split_n rfl rfl (fun _ => ?_) (fun _ => ?_)) <;> try (first | contradiction | (exfalso; omega)))
                | refine r_val rfl rfl (by (first | omega | exact ⟨rfl, hby⟩ | exact ⟨rfl, hvb⟩ | exact Nat.le_of_ble_eq_true rfl | ((repeat' refine And.intro ?_ ?_) <;> first | omega | rfl | trivial | exact Nat.le_refl _ | exact Nat.le_of_ble_eq_true rfl))) ?_ | refine r_gval rfl rfl rfl rfl (by (first | omega | exact ⟨rfl, hby⟩ | exact ⟨rfl, hvb⟩ | exact Nat.le_of_ble_eq_true rfl | ((repeat' refine And.intro ?_ ?_) <;> first | omega | rfl | trivial | exact Nat.le_refl _ | exact Nat.le_of_ble_eq_true rfl))) ?_
                | refine r_obj rfl rfl (by (first | omega | exact ⟨rfl, hby⟩ | exact ⟨rfl, hvb⟩ | exact Nat.le_of_ble_eq_true rfl | ((repeat' refine And.intro ?_ ?_) <;> first | omega | rfl | trivial | exact Nat.le_refl _ | exact Nat.le_of_ble_eq_true rfl))) ?_ | refine r_sto rfl (by (first | omega | exact ⟨rfl, hby⟩ | exact ⟨rfl, hvb⟩ | exact Nat.le_of_ble_eq_true rfl | ((repeat' refine And.intro ?_ ?_) <;> first | omega | rfl | trivial | exact Nat.le_refl _ | exact Nat.le_of_ble_eq_true rfl))) ?_ | refine r_gobj rfl rfl rfl rfl (by (first | omega | exact ⟨rfl, hby⟩ | exact ⟨rfl, hvb⟩ | exact Nat.le_of_ble_eq_true rfl | ((repeat' refine And.intro ?_ ?_) <;> first | omega | rfl | trivial | exact Nat.le_refl _ | exact Nat.le_of_ble_eq_true rfl))) ?_
                | refine e_hit rfl ?_ | refine e_miss rfl ?_
                | refine ⟨by kernel_rfl, ?_⟩ | ((with_reducible refine c_grd ?_); (fail_if_success (refine c_lit true rfl rfl rfl ?_)); (fail_if_success (refine c_lit false rfl rfl rfl ?_)); refine c_split rfl rfl (fun _ => ?_) (fun _ => ?_)))
              all_goals exact ⟨j - 1, ⟨by omega, hjl⟩, by omega, ⟨rfl, rfl, rfl, congrArg (D.i .i64) (by omega), rfl, rfl, rfl, rfl, rfl, rfl, trivial⟩, leOw_C (own2 := [_, _]) rfl ⟨(le_arr rfl rfl fun _ _ => rfl).1, rfl, trivial⟩, okAll_b (ks := [9000, 20, 10]) w2 (fun k hk => hk) rfl, fun k hk => by rw [hX] at hk; simp at hk⟩
    · skip
      repeat' (first
        | refine r_call (f := 7) rfl rfl Try.call7 rfl live_ctr ?_
        | with_reducible refine t_seq ?_ | with_reducible refine t_region ?_ | with_reducible refine c_nil ?_ | with_reducible refine n_then ?_
        | with_reducible refine t_ret ?_ | with_reducible refine t_skip ?_ | with_reducible refine t_exit ?_ | with_reducible refine t_block ?_
        | with_reducible refine n_block ?_ | with_reducible refine e_then ?_ | with_reducible refine x_then ?_ | with_reducible refine x_block ?_ | with_reducible refine t_draw ?_
        | refine r_val rfl rfl True.intro ?_ | refine r_gskip rfl rfl rfl ?_ | refine r_gskip2 rfl rfl rfl ?_ | refine r_gval rfl rfl rfl rfl True.intro ?_
        | refine t_true rfl ?_ | refine t_false rfl ?_
        | ((first | refine t_cond_d rfl (fun _ => ?_) (fun _ => ?_) | refine t_cond_i rfl (fun _ => ?_) (fun _ => ?_) | refine t_cond_j rfl (fun _ => ?_) (fun _ => ?_) | refine t_cond_s rfl (fun _ => ?_) (fun _ => ?_) | refine t_cond_n rfl (fun _ => ?_) (fun _ => ?_) | refine t_cond rfl (fun _ => ?_) (fun _ => ?_) | refine c_split_d rfl rfl (fun _ => ?_) (fun _ => ?_) | refine c_split_i rfl rfl (fun _ => ?_) (fun _ => ?_) | refine c_split_j rfl rfl (fun _ => ?_) (fun _ => ?_) | refine c_split_s rfl rfl (fun _ => ?_) (fun _ => ?_) | refine c_split_n rfl rfl (fun _ => ?_) (fun _ => ?_)) <;> try (first | contradiction | (exfalso; omega)))
        | refine r_val rfl rfl (by (first | omega | exact Nat.le_of_ble_eq_true rfl | (simp_all; done) | (simp_all; omega) | ((repeat' refine And.intro ?_ ?_) <;> first | omega | rfl | exact Nat.le_refl _ | exact Nat.le_of_ble_eq_true rfl | exact bytesF_one _ | (simp_all; done) | (simp_all; omega)))) ?_ | refine r_gval rfl rfl rfl rfl (by (first | omega | exact Nat.le_of_ble_eq_true rfl | (simp_all; done) | (simp_all; omega) | ((repeat' refine And.intro ?_ ?_) <;> first | omega | rfl | exact Nat.le_refl _ | exact Nat.le_of_ble_eq_true rfl | exact bytesF_one _ | (simp_all; done) | (simp_all; omega)))) ?_
        | refine r_obj rfl rfl (by (first | omega | exact Nat.le_of_ble_eq_true rfl | (simp_all; done) | (simp_all; omega) | ((repeat' refine And.intro ?_ ?_) <;> first | omega | rfl | exact Nat.le_refl _ | exact Nat.le_of_ble_eq_true rfl | exact bytesF_one _ | (simp_all; done) | (simp_all; omega)))) ?_ | refine r_sto rfl (by (first | omega | exact Nat.le_of_ble_eq_true rfl | (simp_all; done) | (simp_all; omega) | ((repeat' refine And.intro ?_ ?_) <;> first | omega | rfl | exact Nat.le_refl _ | exact Nat.le_of_ble_eq_true rfl | exact bytesF_one _ | (simp_all; done) | (simp_all; omega)))) ?_ | refine r_gobj rfl rfl rfl rfl (by (first | omega | exact Nat.le_of_ble_eq_true rfl | (simp_all; done) | (simp_all; omega) | ((repeat' refine And.intro ?_ ?_) <;> first | omega | rfl | exact Nat.le_refl _ | exact Nat.le_of_ble_eq_true rfl | exact bytesF_one _ | (simp_all; done) | (simp_all; omega)))) ?_
        | refine e_hit rfl ?_ | refine e_miss rfl ?_
        | refine ⟨by kernel_rfl, ?_⟩ | refine x_end rfl rfl | refine n_end rfl rfl | ((with_reducible refine c_grd ?_); (fail_if_success (refine c_lit true rfl rfl rfl ?_)); (fail_if_success (refine c_lit false rfl rfl rfl ?_)); refine c_split rfl rfl (fun _ => ?_) (fun _ => ?_)))

end Go.Proofs.Ytghhohckonbkkaa.Flow
