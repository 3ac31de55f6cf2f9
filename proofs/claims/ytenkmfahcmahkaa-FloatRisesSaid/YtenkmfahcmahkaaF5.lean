import Derived.Test.YtenkmfahcmahkaaF4
/- FLOAT: the program's numbers without words 0 above, shifted, multiplied. -/
namespace Go.Proofs.Ytenkmfahcmahkaa.Flow
open Go

theorem slW_weak (k : IntKind) (l : List Nat) (m : Nat) (f : Nat → List D) (hm : m = l.length) (h : ∀ i, i < m → f i = wF k l i) : Weak (.sl 1 m f) (slW k l) := by
  subst hm
  refine .sl 1 _ _ _ (fun i hi => ?_) (fun i j hi _ => ?_)
  · rw [h i hi]
    exact ⟨rfl, rfl⟩
  · rw [h i hi]
    exact .refl _

theorem wF_take (k : IntKind) (l : List Nat) (n i : Nat) (h : i < n) : wF k (l.take n) i = wF k l i := by
  simp [wF, List.getD_eq_getElem?_getD, List.getElem?_take, h]

theorem trim_ctr (a : List Nat) (h1 : a.length ≤ 1099511627776) : Ctr Try.prog 35 [slW .u32 a] (slW .u32 (trimG a)) := by
  refine r_fun Try.func35 rfl Try.ntmps35 Try.results35 rfl rfl fun X hL hX => ?_
  repeat' (first
    | with_reducible refine t_seq ?_ | with_reducible refine t_region ?_ | with_reducible refine c_nil ?_ | with_reducible refine n_then ?_
    | with_reducible refine t_ret ?_ | with_reducible refine t_skip ?_ | with_reducible refine t_exit ?_ | with_reducible refine t_block ?_
    | with_reducible refine n_block ?_ | with_reducible refine e_then ?_ | with_reducible refine x_then ?_ | with_reducible refine x_block ?_ | with_reducible refine t_draw ?_
    | refine r_val rfl rfl True.intro ?_ | refine r_gskip rfl rfl rfl ?_ | refine r_gskip2 rfl rfl rfl ?_ | refine r_gval rfl rfl rfl rfl True.intro ?_
    | refine t_true rfl ?_ | refine t_false rfl ?_
    | ((first | refine t_cond_d rfl (fun _ => ?_) (fun _ => ?_) | refine t_cond_i rfl (fun _ => ?_) (fun _ => ?_) | refine t_cond_j rfl (fun _ => ?_) (fun _ => ?_) | refine t_cond_s rfl (fun _ => ?_) (fun _ => ?_) | refine t_cond_n rfl (fun _ => ?_) (fun _ => ?_) | refine t_cond rfl (fun _ => ?_) (fun _ => ?_) | refine c_split_d rfl rfl (fun _ => ?_) (fun _ => ?_) | refine c_split_i rfl rfl (fun _ => ?_) (fun _ => ?_) | refine c_split_j rfl rfl (fun _ => ?_) (fun _ => ?_) | refine c_split_s rfl rfl (fun _ => ?_) (fun _ => ?_) | refine c_split_n rfl rfl (fun _ => ?_) (fun _ => ?_)) <;> try (first | contradiction | (exfalso; omega)))
    | refine r_val rfl rfl (by (first | omega | exact Nat.le_of_ble_eq_true rfl | (simp only [wrap_u8, IntKind.wrap_i64, IntKind.wrap_i32, wrap_u32', wrap_u64', InI]; (repeat' refine And.intro ?_ ?_) <;> omega) | ((repeat' refine And.intro ?_ ?_) <;> first | omega | rfl | exact Nat.le_refl _ | exact Nat.le_of_ble_eq_true rfl | exact bytesF_one _) | (simp_all; done) | (simp_all; omega))) ?_ | refine r_gval rfl rfl rfl rfl (by (first | omega | exact Nat.le_of_ble_eq_true rfl | (simp only [wrap_u8, IntKind.wrap_i64, IntKind.wrap_i32, wrap_u32', wrap_u64', InI]; (repeat' refine And.intro ?_ ?_) <;> omega) | ((repeat' refine And.intro ?_ ?_) <;> first | omega | rfl | exact Nat.le_refl _ | exact Nat.le_of_ble_eq_true rfl | exact bytesF_one _) | (simp_all; done) | (simp_all; omega))) ?_
    | refine r_obj rfl rfl (by (first | omega | exact Nat.le_of_ble_eq_true rfl | (simp only [wrap_u8, IntKind.wrap_i64, IntKind.wrap_i32, wrap_u32', wrap_u64', InI]; (repeat' refine And.intro ?_ ?_) <;> omega) | ((repeat' refine And.intro ?_ ?_) <;> first | omega | rfl | exact Nat.le_refl _ | exact Nat.le_of_ble_eq_true rfl | exact bytesF_one _) | (simp_all; done) | (simp_all; omega))) ?_ | refine r_sto rfl (by (first | omega | exact Nat.le_of_ble_eq_true rfl | (simp only [wrap_u8, IntKind.wrap_i64, IntKind.wrap_i32, wrap_u32', wrap_u64', InI]; (repeat' refine And.intro ?_ ?_) <;> omega) | ((repeat' refine And.intro ?_ ?_) <;> first | omega | rfl | exact Nat.le_refl _ | exact Nat.le_of_ble_eq_true rfl | exact bytesF_one _) | (simp_all; done) | (simp_all; omega))) ?_ | refine r_gobj rfl rfl rfl rfl (by (first | omega | exact Nat.le_of_ble_eq_true rfl | (simp only [wrap_u8, IntKind.wrap_i64, IntKind.wrap_i32, wrap_u32', wrap_u64', InI]; (repeat' refine And.intro ?_ ?_) <;> omega) | ((repeat' refine And.intro ?_ ?_) <;> first | omega | rfl | exact Nat.le_refl _ | exact Nat.le_of_ble_eq_true rfl | exact bytesF_one _) | (simp_all; done) | (simp_all; omega))) ?_
    | refine e_hit rfl ?_ | refine e_miss rfl ?_
    | refine ⟨by kernel_rfl, ?_⟩ | refine x_end rfl ?_ | ((with_reducible refine c_grd ?_); (fail_if_success (refine c_lit true rfl rfl rfl ?_)); (fail_if_success (refine c_lit false rfl rfl rfl ?_)); refine c_split rfl rfl (fun _ => ?_) (fun _ => ?_)))
  refine T.loop hL (fun n : Nat => [(0, slW .u32 a), (3, .i .i64 n)]) (fun _ => []) (fun n => n ≤ a.length ∧ trimG a = trimG (a.take n)) (fun n => n) a.length
    ⟨Nat.le_refl _, by rw [List.take_length]⟩ ⟨⟨rfl, rfl, trivial⟩, trivial, rfl, by rw [hX]; intro k hk; cases hk⟩ ?_
  rintro n ⟨g1, g2⟩
  have hp : 0 < n → ∃ p, n = p + 1 ∧ ((n : Int) - 1).toNat = p := fun h => ⟨n - 1, by omega, by omega⟩
  have e : ∀ p, n = p + 1 → a.take n = a.take p ++ [a.getD p 0] := fun p h => by
    rw [h, List.take_add_one, List.getD_eq_getElem?_getD, List.getElem?_eq_getElem (by omega)]
    rfl
  have fin : trimG a = a.take n → Weak (.sl 1 ((n : Int).toNat - Int.toNat 0) fun i => wF .u32 a (Int.toNat 0 + i)) (slW .u32 (trimG a)) := fun h => by
    rw [h]
    refine slW_weak _ _ _ _ (by simp; omega) (fun i hi => ?_)
    rw [wF_take _ _ _ _ (by simpa using hi)]
    simp
  repeat' (first
    | with_reducible refine t_seq ?_ | with_reducible refine t_region ?_ | with_reducible refine c_nil ?_ | with_reducible refine n_then ?_
    | with_reducible refine t_ret ?_ | with_reducible refine t_skip ?_ | with_reducible refine t_exit ?_ | with_reducible refine t_block ?_
    | with_reducible refine n_block ?_ | with_reducible refine e_then ?_ | with_reducible refine x_then ?_ | with_reducible refine x_block ?_ | with_reducible refine t_draw ?_
    | refine r_val rfl rfl True.intro ?_ | refine r_gskip rfl rfl rfl ?_ | refine r_gskip2 rfl rfl rfl ?_ | refine r_gval rfl rfl rfl rfl True.intro ?_
    | refine t_true rfl ?_ | refine t_false rfl ?_
    | ((first | refine t_cond_d rfl (fun _ => ?_) (fun _ => ?_) | refine t_cond_i rfl (fun _ => ?_) (fun _ => ?_) | refine t_cond_j rfl (fun _ => ?_) (fun _ => ?_) | refine t_cond_s rfl (fun _ => ?_) (fun _ => ?_) | refine t_cond_n rfl (fun _ => ?_) (fun _ => ?_) | refine t_cond rfl (fun _ => ?_) (fun _ => ?_) | refine c_split_d rfl rfl (fun _ => ?_) (fun _ => ?_) | refine c_split_i rfl rfl (fun _ => ?_) (fun _ => ?_) | refine c_split_j rfl rfl (fun _ => ?_) (fun _ => ?_) | refine c_split_s rfl rfl (fun _ => ?_) (fun _ => ?_) | refine c_split_n rfl rfl (fun _ => ?_) (fun _ => ?_)) <;> try (first | contradiction | (exfalso; omega)))
    | refine r_val rfl rfl (by (first | omega | exact Nat.le_of_ble_eq_true rfl | (simp only [wrap_u8, IntKind.wrap_i64, IntKind.wrap_i32, wrap_u32', wrap_u64', InI]; (repeat' refine And.intro ?_ ?_) <;> omega) | ((repeat' refine And.intro ?_ ?_) <;> first | omega | rfl | exact Nat.le_refl _ | exact Nat.le_of_ble_eq_true rfl | exact bytesF_one _) | (simp_all; done) | (simp_all; omega))) ?_ | refine r_gval rfl rfl rfl rfl (by (first | omega | exact Nat.le_of_ble_eq_true rfl | (simp only [wrap_u8, IntKind.wrap_i64, IntKind.wrap_i32, wrap_u32', wrap_u64', InI]; (repeat' refine And.intro ?_ ?_) <;> omega) | ((repeat' refine And.intro ?_ ?_) <;> first | omega | rfl | exact Nat.le_refl _ | exact Nat.le_of_ble_eq_true rfl | exact bytesF_one _) | (simp_all; done) | (simp_all; omega))) ?_
    | refine r_obj rfl rfl (by (first | omega | exact Nat.le_of_ble_eq_true rfl | (simp only [wrap_u8, IntKind.wrap_i64, IntKind.wrap_i32, wrap_u32', wrap_u64', InI]; (repeat' refine And.intro ?_ ?_) <;> omega) | ((repeat' refine And.intro ?_ ?_) <;> first | omega | rfl | exact Nat.le_refl _ | exact Nat.le_of_ble_eq_true rfl | exact bytesF_one _) | (simp_all; done) | (simp_all; omega))) ?_ | refine r_sto rfl (by (first | omega | exact Nat.le_of_ble_eq_true rfl | (simp only [wrap_u8, IntKind.wrap_i64, IntKind.wrap_i32, wrap_u32', wrap_u64', InI]; (repeat' refine And.intro ?_ ?_) <;> omega) | ((repeat' refine And.intro ?_ ?_) <;> first | omega | rfl | exact Nat.le_refl _ | exact Nat.le_of_ble_eq_true rfl | exact bytesF_one _) | (simp_all; done) | (simp_all; omega))) ?_ | refine r_gobj rfl rfl rfl rfl (by (first | omega | exact Nat.le_of_ble_eq_true rfl | (simp only [wrap_u8, IntKind.wrap_i64, IntKind.wrap_i32, wrap_u32', wrap_u64', InI]; (repeat' refine And.intro ?_ ?_) <;> omega) | ((repeat' refine And.intro ?_ ?_) <;> first | omega | rfl | exact Nat.le_refl _ | exact Nat.le_of_ble_eq_true rfl | exact bytesF_one _) | (simp_all; done) | (simp_all; omega))) ?_
    | refine e_hit rfl ?_ | refine e_miss rfl ?_
    | refine ⟨by kernel_rfl, ?_⟩ | refine x_endw rfl ?_ | ((with_reducible refine c_grd ?_); (fail_if_success (refine c_lit true rfl rfl rfl ?_)); (fail_if_success (refine c_lit false rfl rfl rfl ?_)); refine c_split rfl rfl (fun _ => ?_) (fun _ => ?_)))
  · rename_i h2 h3
    obtain ⟨p, rfl, hp⟩ := hp (by omega)
    rw [hp] at h3
    refine ⟨p, ⟨by omega, ?_⟩, by omega, ⟨rfl, by rw [show ((p : Nat) : Int) = ((p + 1 : Nat) : Int) - 1 by omega]; rfl, trivial⟩, trivial, rfl, by rw [hX]; intro k hk; cases hk⟩
    rw [g2, e p rfl, show a.getD p 0 = 0 by omega, trimG_snoc0]
  · rename_i h2 h3
    obtain ⟨p, rfl, hp⟩ := hp (by omega)
    rw [hp] at h3
    refine fin ?_
    rw [g2, e p rfl, trimG_snoc _ _ (by omega)]
  · refine fin ?_
    rw [g2, show n = 0 by omega]
    rfl

/-- Times 2 to so much. -/
def shG (a : List Nat) (n : Nat) : List Nat := if a.length = 0 then a else List.replicate (n / 32) 0 ++ mulG 4294967296 (2 ^ (n % 32)) 0 a

theorem pow32 (n : Nat) : 2 ^ (n % 32) < 4294967296 := Nat.lt_of_lt_of_le (Nat.pow_lt_pow_right (by omega) (Nat.mod_lt n (by omega))) (by decide)

theorem shG_ok (a : List Nat) (n : Nat) (ha : wsm 4294967296 a) : val 4294967296 (shG a n) = val 4294967296 a * 2 ^ n ∧ (nrm a → nrm (shG a n)) ∧ wsm 4294967296 (shG a n) ∧ (shG a n).length ≤ a.length + n / 32 + 1 := by
  unfold shG
  split
  · rename_i h
    have : a = [] := List.length_eq_zero_iff.1 h
    subst this
    exact ⟨by simp [val], fun h => h, ha, by simp⟩
  · rename_i h
    have hlt := pow32 n
    refine ⟨?_, fun hn => ?_, wsm_append.2 ⟨wsm_zeros (by omega) _, wsm_mulG (by omega) a 0 (by omega) ha⟩, ?_⟩
    · rw [val_zeros, val_mulG]
      have e : (4294967296 : Nat) = 2 ^ 32 := by decide
      have e2 : (2 : Nat) ^ n = (2 ^ 32) ^ (n / 32) * 2 ^ (n % 32) := by rw [← Nat.pow_mul, ← Nat.pow_add, Nat.div_add_mod]
      rw [e2, ← e]
      grind
    · refine nrm_zeros _ _ (nrm_mulG (by omega) (Nat.two_pow_pos _) a 0 hn) ?_
      cases a with
      | nil => simp at h
      | cons w r => rw [mulG]; simp
    · have := len_mulG 4294967296 (2 ^ (n % 32)) a 0
      simp
      omega

theorem shift_ctr (a : List Nat) (n : Nat) (ha : wsm 4294967296 a) (h1 : a.length ≤ 1048575) (h2 : n ≤ 1048576) : Ctr Try.prog 29 [slW .u32 a, .i .i64 n] (slW .u32 (shG a n)) := by
  have hlt := pow32 n
  have e0 : IntKind.u32.wrap (1 * 2 ^ ((n : Int) % 32).toNat) = ((2 ^ (n % 32) : Nat) : Int) := by
    rw [show ((n : Int) % 32).toNat = n % 32 by omega, wrap_u32', Int.one_mul]
    rw [show (2 : Int) ^ (n % 32) = ((2 ^ (n % 32) : Nat) : Int) from (Int.natCast_pow 2 (n % 32)).symm]
    generalize 2 ^ (n % 32) = x at hlt
    omega
  have hm := mulAdd_ctr a (2 ^ (n % 32)) 0 ha hlt (by omega) (by omega)
  rw [← e0] at hm
  have hlen := len_mulG 4294967296 (2 ^ (n % 32)) a 0
  refine r_fun Try.func29 rfl Try.ntmps29 Try.results29 rfl rfl fun X hL hX => ?_
  repeat' (first
    | with_reducible refine t_seq ?_ | with_reducible refine t_region ?_ | with_reducible refine c_nil ?_ | with_reducible refine n_then ?_
    | with_reducible refine t_ret ?_ | with_reducible refine t_skip ?_ | with_reducible refine t_exit ?_ | with_reducible refine t_block ?_
    | with_reducible refine n_block ?_ | with_reducible refine e_then ?_ | with_reducible refine x_then ?_ | with_reducible refine x_block ?_ | with_reducible refine t_draw ?_
    | refine r_val rfl rfl True.intro ?_ | refine r_gskip rfl rfl rfl ?_ | refine r_gskip2 rfl rfl rfl ?_ | refine r_gval rfl rfl rfl rfl True.intro ?_
    | refine t_true rfl ?_ | refine t_false rfl ?_
    | ((first | refine t_cond_d rfl (fun _ => ?_) (fun _ => ?_) | refine t_cond_i rfl (fun _ => ?_) (fun _ => ?_) | refine t_cond_j rfl (fun _ => ?_) (fun _ => ?_) | refine t_cond_s rfl (fun _ => ?_) (fun _ => ?_) | refine t_cond_n rfl (fun _ => ?_) (fun _ => ?_) | refine t_cond rfl (fun _ => ?_) (fun _ => ?_) | refine c_split_d rfl rfl (fun _ => ?_) (fun _ => ?_) | refine c_split_i rfl rfl (fun _ => ?_) (fun _ => ?_) | refine c_split_j rfl rfl (fun _ => ?_) (fun _ => ?_) | refine c_split_s rfl rfl (fun _ => ?_) (fun _ => ?_) | refine c_split_n rfl rfl (fun _ => ?_) (fun _ => ?_)) <;> try (first | contradiction | (exfalso; omega)))
    | refine r_val rfl rfl (by (first | omega | exact Nat.le_of_ble_eq_true rfl | (simp only [wrap_u8, IntKind.wrap_i64, IntKind.wrap_i32, wrap_u32', wrap_u64', InI]; (repeat' refine And.intro ?_ ?_) <;> omega) | ((repeat' refine And.intro ?_ ?_) <;> first | omega | rfl | exact Nat.le_refl _ | exact Nat.le_of_ble_eq_true rfl | exact bytesF_one _) | (simp_all; done) | (simp_all; omega))) ?_ | refine r_gval rfl rfl rfl rfl (by (first | omega | exact Nat.le_of_ble_eq_true rfl | (simp only [wrap_u8, IntKind.wrap_i64, IntKind.wrap_i32, wrap_u32', wrap_u64', InI]; (repeat' refine And.intro ?_ ?_) <;> omega) | ((repeat' refine And.intro ?_ ?_) <;> first | omega | rfl | exact Nat.le_refl _ | exact Nat.le_of_ble_eq_true rfl | exact bytesF_one _) | (simp_all; done) | (simp_all; omega))) ?_
    | refine r_obj rfl rfl (by (first | omega | exact Nat.le_of_ble_eq_true rfl | (simp only [wrap_u8, IntKind.wrap_i64, IntKind.wrap_i32, wrap_u32', wrap_u64', InI]; (repeat' refine And.intro ?_ ?_) <;> omega) | ((repeat' refine And.intro ?_ ?_) <;> first | omega | rfl | exact Nat.le_refl _ | exact Nat.le_of_ble_eq_true rfl | exact bytesF_one _) | (simp_all; done) | (simp_all; omega))) ?_ | refine r_sto rfl (by (first | omega | exact Nat.le_of_ble_eq_true rfl | (simp only [wrap_u8, IntKind.wrap_i64, IntKind.wrap_i32, wrap_u32', wrap_u64', InI]; (repeat' refine And.intro ?_ ?_) <;> omega) | ((repeat' refine And.intro ?_ ?_) <;> first | omega | rfl | exact Nat.le_refl _ | exact Nat.le_of_ble_eq_true rfl | exact bytesF_one _) | (simp_all; done) | (simp_all; omega))) ?_ | refine r_gobj rfl rfl rfl rfl (by (first | omega | exact Nat.le_of_ble_eq_true rfl | (simp only [wrap_u8, IntKind.wrap_i64, IntKind.wrap_i32, wrap_u32', wrap_u64', InI]; (repeat' refine And.intro ?_ ?_) <;> omega) | ((repeat' refine And.intro ?_ ?_) <;> first | omega | rfl | exact Nat.le_refl _ | exact Nat.le_of_ble_eq_true rfl | exact bytesF_one _) | (simp_all; done) | (simp_all; omega))) ?_
    | refine e_hit rfl ?_ | refine e_miss rfl ?_
    | refine ⟨by kernel_rfl, ?_⟩ | refine x_endF [4] 11 rfl ⟨rfl, trivial⟩ rfl ?_ | refine x_end rfl ?_ | refine r_call (f := 26) rfl rfl Try.call26 rfl hm ?_ | ((with_reducible refine c_grd ?_); (fail_if_success (refine c_lit true rfl rfl rfl ?_)); (fail_if_success (refine c_lit false rfl rfl rfl ?_)); refine c_split rfl rfl (fun _ => ?_) (fun _ => ?_)))
  · unfold shG
    rw [if_pos (by omega)]
  · have e : ((n : Int) / 32).toNat = n / 32 := by omega
    rw [e]
    unfold shG
    rw [if_neg (by omega)]
    refine slW_weak _ _ _ _ (by simp) (fun i hi => ?_)
    have h2 := congrFun (catF_w .u32 (List.replicate (n / 32) 0) (mulG 4294967296 (2 ^ (n % 32)) 0 a) (wF .u32 (mulG 4294967296 (2 ^ (n % 32)) 0 a)) (fun _ _ => rfl)) i
    rw [List.length_replicate] at h2
    rw [← h2]
    unfold catF
    split
    · rename_i h3
      simp [wF, List.getD_eq_getElem?_getD, List.getElem?_replicate, h3]
    · rfl

theorem mulAdd0_ctr (l : List Nat) (m : Int) (m' : Nat) (e : m = m') (hl : wsm 4294967296 l) (hm : m' < 4294967296) (hlen : l.length ≤ 1048576) :
    Ctr Try.prog 26 [slW .u32 l, .i .u32 m, .i .u32 0] (slW .u32 (mulG 4294967296 m' 0 l)) := by
  subst e
  exact mulAdd_ctr l m' 0 hl hm (by omega) hlen

/-- Times a number of 64 bits. -/
def mulW (a : List Nat) (m : Nat) : List Nat := trimG (addG 4294967296 0 (mulG 4294967296 (m % 4294967296) 0 a) (shG (mulG 4294967296 (m / 4294967296) 0 a) 32))

theorem wsm_addG : ∀ (a b : List Nat) (c : Nat), c < 2 → wsm 4294967296 a → wsm 4294967296 b → wsm 4294967296 (addG 4294967296 c a b)
  | [], [], c, hc, _, _ => by
    unfold addG
    split
    · exact wsm_cons.2 ⟨by omega, wsm_nil _⟩
    · exact wsm_nil _
  | x :: a, [], c, hc, ha, hb => by
    obtain ⟨h1, h2⟩ := wsm_cons.1 ha
    rw [addG]
    exact wsm_cons.2 ⟨Nat.mod_lt _ (by omega), wsm_addG a [] _ (by omega) h2 hb⟩
  | [], y :: b, c, hc, ha, hb => by
    obtain ⟨h1, h2⟩ := wsm_cons.1 hb
    rw [addG]
    exact wsm_cons.2 ⟨Nat.mod_lt _ (by omega), wsm_addG [] b _ (by omega) ha h2⟩
  | x :: a, y :: b, c, hc, ha, hb => by
    obtain ⟨h1, h2⟩ := wsm_cons.1 ha
    obtain ⟨h3, h4⟩ := wsm_cons.1 hb
    rw [addG]
    exact wsm_cons.2 ⟨Nat.mod_lt _ (by omega), wsm_addG a b _ (by omega) h2 h4⟩

theorem len_addG : ∀ (a b : List Nat) (c : Nat), (addG 4294967296 c a b).length ≤ max a.length b.length + 1
  | [], [], c => by unfold addG; split <;> simp
  | x :: a, [], c => by
    have := len_addG a [] ((c + x) / 4294967296)
    rw [addG, List.length_cons, List.length_cons]
    simp only [List.length_nil] at this ⊢
    omega
  | [], y :: b, c => by
    have := len_addG [] b ((c + y) / 4294967296)
    rw [addG, List.length_cons, List.length_cons]
    simp only [List.length_nil] at this ⊢
    omega
  | x :: a, y :: b, c => by
    have := len_addG a b ((c + x + y) / 4294967296)
    rw [addG, List.length_cons, List.length_cons, List.length_cons]
    omega

theorem mulW_ok (a : List Nat) (m : Nat) (ha : wsm 4294967296 a) (hm : m < 18446744073709551616) : val 4294967296 (mulW a m) = val 4294967296 a * m ∧ nrm (mulW a m) ∧ wsm 4294967296 (mulW a m) ∧ (mulW a m).length ≤ a.length + 4 := by
  have s1 := wsm_mulG (m := m % 4294967296) (B := 4294967296) (by omega) a 0 (by omega) ha
  have s2 := wsm_mulG (m := m / 4294967296) (B := 4294967296) (by omega) a 0 (by omega) ha
  have s3 := shG_ok (mulG 4294967296 (m / 4294967296) 0 a) 32 s2
  have s4 := wsm_addG (mulG 4294967296 (m % 4294967296) 0 a) (shG (mulG 4294967296 (m / 4294967296) 0 a) 32) 0 (by omega) s1 s3.2.2.1
  have l1 := len_mulG 4294967296 (m % 4294967296) a 0
  have l2 := len_mulG 4294967296 (m / 4294967296) a 0
  have l3 := len_addG (mulG 4294967296 (m % 4294967296) 0 a) (shG (mulG 4294967296 (m / 4294967296) 0 a) 32) 0
  have t := val_trimG 4294967296 _ (addG 4294967296 0 (mulG 4294967296 (m % 4294967296) 0 a) (shG (mulG 4294967296 (m / 4294967296) 0 a) 32)) rfl
  refine ⟨?_, t.2.1, t.2.2.1 s4, ?_⟩
  · unfold mulW
    rw [t.1, val_addG, s3.1, val_mulG, val_mulG]
    have e : m = m % 4294967296 + 4294967296 * (m / 4294967296) := by omega
    have e2 : (2 : Nat) ^ 32 = 4294967296 := by decide
    rw [e2]
    generalize val 4294967296 a = v
    generalize m % 4294967296 = p at *
    generalize m / 4294967296 = q at *
    subst e
    grind
  · unfold mulW
    have h4 := s3.2.2.2
    omega

theorem mul_ctr (a : List Nat) (m : Nat) (ha : wsm 4294967296 a) (hm : m < 18446744073709551616) (hlen : a.length ≤ 1000000) : Ctr Try.prog 27 [slW .u32 a, .i .u64 m] (slW .u32 (mulW a m)) := by
  have s1 := wsm_mulG (m := m % 4294967296) (B := 4294967296) (by omega) a 0 (by omega) ha
  have s2 := wsm_mulG (m := m / 4294967296) (B := 4294967296) (by omega) a 0 (by omega) ha
  have s3 := shG_ok (mulG 4294967296 (m / 4294967296) 0 a) 32 s2
  have l1 := len_mulG 4294967296 (m % 4294967296) a 0
  have l2 := len_mulG 4294967296 (m / 4294967296) a 0
  have l3 := len_addG (mulG 4294967296 (m % 4294967296) 0 a) (shG (mulG 4294967296 (m / 4294967296) 0 a) 32) 0
  have l4 := s3.2.2.2
  have e32 : (2 : Int) ^ Int.toNat 32 = 4294967296 := by decide
  have c1 := mulAdd0_ctr a (IntKind.u32.wrap (m : Int)) (m % 4294967296) (by rw [wrap_u32']; omega) ha (by omega) (by omega)
  have c2 := mulAdd0_ctr a (IntKind.u32.wrap ((m : Int) / 2 ^ Int.toNat 32)) (m / 4294967296) (by rw [wrap_u32', e32]; omega) ha (by omega) (by omega)
  have c3 := shift_ctr (mulG 4294967296 (m / 4294967296) 0 a) 32 s2 (by omega) (by omega)
  have c4 := add_ctr (mulG 4294967296 (m % 4294967296) 0 a) (shG (mulG 4294967296 (m / 4294967296) 0 a) 32) s1 s3.2.2.1 (by omega) (by omega)
  have c5 := trim_ctr (addG 4294967296 0 (mulG 4294967296 (m % 4294967296) 0 a) (shG (mulG 4294967296 (m / 4294967296) 0 a) 32)) (by omega)
  refine r_fun Try.func27 rfl Try.ntmps27 Try.results27 rfl rfl fun X hL hX => ?_
  repeat' (first
    | with_reducible refine t_seq ?_ | with_reducible refine t_region ?_ | with_reducible refine c_nil ?_ | with_reducible refine n_then ?_
    | with_reducible refine t_ret ?_ | with_reducible refine t_skip ?_ | with_reducible refine t_exit ?_ | with_reducible refine t_block ?_
    | with_reducible refine n_block ?_ | with_reducible refine e_then ?_ | with_reducible refine x_then ?_ | with_reducible refine x_block ?_ | with_reducible refine t_draw ?_
    | refine r_val rfl rfl True.intro ?_ | refine r_gskip rfl rfl rfl ?_ | refine r_gskip2 rfl rfl rfl ?_ | refine r_gval rfl rfl rfl rfl True.intro ?_
    | refine t_true rfl ?_ | refine t_false rfl ?_
    | ((first | refine t_cond_d rfl (fun _ => ?_) (fun _ => ?_) | refine t_cond_i rfl (fun _ => ?_) (fun _ => ?_) | refine t_cond_j rfl (fun _ => ?_) (fun _ => ?_) | refine t_cond_s rfl (fun _ => ?_) (fun _ => ?_) | refine t_cond_n rfl (fun _ => ?_) (fun _ => ?_) | refine t_cond rfl (fun _ => ?_) (fun _ => ?_) | refine c_split_d rfl rfl (fun _ => ?_) (fun _ => ?_) | refine c_split_i rfl rfl (fun _ => ?_) (fun _ => ?_) | refine c_split_j rfl rfl (fun _ => ?_) (fun _ => ?_) | refine c_split_s rfl rfl (fun _ => ?_) (fun _ => ?_) | refine c_split_n rfl rfl (fun _ => ?_) (fun _ => ?_)) <;> try (first | contradiction | (exfalso; omega)))
    | refine r_val rfl rfl (by (first | omega | exact Nat.le_of_ble_eq_true rfl | (simp only [wrap_u8, IntKind.wrap_i64, IntKind.wrap_i32, wrap_u32', wrap_u64', InI]; (repeat' refine And.intro ?_ ?_) <;> omega) | ((repeat' refine And.intro ?_ ?_) <;> first | omega | rfl | exact Nat.le_refl _ | exact Nat.le_of_ble_eq_true rfl | exact bytesF_one _) | (simp_all; done) | (simp_all; omega))) ?_ | refine r_gval rfl rfl rfl rfl (by (first | omega | exact Nat.le_of_ble_eq_true rfl | (simp only [wrap_u8, IntKind.wrap_i64, IntKind.wrap_i32, wrap_u32', wrap_u64', InI]; (repeat' refine And.intro ?_ ?_) <;> omega) | ((repeat' refine And.intro ?_ ?_) <;> first | omega | rfl | exact Nat.le_refl _ | exact Nat.le_of_ble_eq_true rfl | exact bytesF_one _) | (simp_all; done) | (simp_all; omega))) ?_
    | refine r_obj rfl rfl (by (first | omega | exact Nat.le_of_ble_eq_true rfl | (simp only [wrap_u8, IntKind.wrap_i64, IntKind.wrap_i32, wrap_u32', wrap_u64', InI]; (repeat' refine And.intro ?_ ?_) <;> omega) | ((repeat' refine And.intro ?_ ?_) <;> first | omega | rfl | exact Nat.le_refl _ | exact Nat.le_of_ble_eq_true rfl | exact bytesF_one _) | (simp_all; done) | (simp_all; omega))) ?_ | refine r_sto rfl (by (first | omega | exact Nat.le_of_ble_eq_true rfl | (simp only [wrap_u8, IntKind.wrap_i64, IntKind.wrap_i32, wrap_u32', wrap_u64', InI]; (repeat' refine And.intro ?_ ?_) <;> omega) | ((repeat' refine And.intro ?_ ?_) <;> first | omega | rfl | exact Nat.le_refl _ | exact Nat.le_of_ble_eq_true rfl | exact bytesF_one _) | (simp_all; done) | (simp_all; omega))) ?_ | refine r_gobj rfl rfl rfl rfl (by (first | omega | exact Nat.le_of_ble_eq_true rfl | (simp only [wrap_u8, IntKind.wrap_i64, IntKind.wrap_i32, wrap_u32', wrap_u64', InI]; (repeat' refine And.intro ?_ ?_) <;> omega) | ((repeat' refine And.intro ?_ ?_) <;> first | omega | rfl | exact Nat.le_refl _ | exact Nat.le_of_ble_eq_true rfl | exact bytesF_one _) | (simp_all; done) | (simp_all; omega))) ?_
    | refine e_hit rfl ?_ | refine e_miss rfl ?_
    | refine ⟨by kernel_rfl, ?_⟩ | refine x_end rfl ?_ | refine r_call (f := 26) rfl rfl Try.call26 rfl c1 ?_ | refine r_call (f := 26) rfl rfl Try.call26 rfl c2 ?_ | refine r_call (f := 29) rfl rfl Try.call29 rfl c3 ?_ | refine r_call (f := 34) rfl rfl Try.call34 rfl c4 ?_ | refine r_call (f := 35) rfl rfl Try.call35 rfl c5 ?_ | ((with_reducible refine c_grd ?_); (fail_if_success (refine c_lit true rfl rfl rfl ?_)); (fail_if_success (refine c_lit false rfl rfl rfl ?_)); refine c_split rfl rfl (fun _ => ?_) (fun _ => ?_)))
  rfl

end Go.Proofs.Ytenkmfahcmahkaa.Flow
