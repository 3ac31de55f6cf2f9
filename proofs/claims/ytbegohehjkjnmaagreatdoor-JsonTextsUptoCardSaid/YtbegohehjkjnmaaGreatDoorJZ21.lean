/- The texts J8, J16, J17, FlowS, FlowW, FlowX, one behind the other. -/
import Derived.Test.YtbegohehjkjnmaaGreatDoorJZ9
import Derived.Test.YtbegohehjkjnmaaGreatDoorJZ19
import Derived.Test.YtbegohehjkjnmaaGreatDoorJZ20
import Derived.Lib.OthersKept
namespace Go.Proofs.YtbegohehjkjnmaaGreatDoor.Flow
open Go

set_option maxRecDepth 100000 in
set_option maxHeartbeats 1000000 in
theorem rplace_ctr (l : List (List UInt8)) (k : List UInt8) (hl : l.length ≤ 4194304) : Ctr Tryz.prog 34 [.sl 1 l.length (txF l), .s k] (.i .i64 (idxJ k l)) := by
  refine r_fun Tryz.func34 rfl Tryz.ntmps34 Tryz.results34 rfl rfl fun X hL hX => ?_
  repeat' (first | with_reducible (first | refine t_seq ?_ | refine t_region ?_ | refine c_nil ?_ | refine n_then ?_ | refine t_ret ?_ | refine t_skip ?_ | refine t_exit ?_ | refine t_block ?_ | refine n_block ?_ | refine e_then ?_ | refine x_then ?_ | refine x_block ?_ | refine t_draw ?_) | refine r_val rfl rfl True.intro ?_ | refine r_gskip rfl rfl rfl ?_ | refine r_gskip2 rfl rfl rfl ?_ | refine r_gval rfl rfl rfl rfl True.intro ?_ | refine t_true rfl ?_ | refine t_false rfl ?_ | ((first | refine t_cond_d rfl ?_ ?_ | refine t_cond_i rfl ?_ ?_ | refine t_cond_j rfl ?_ ?_ | refine t_cond_s rfl ?_ ?_ | refine t_cond_n rfl ?_ ?_ | refine t_cond rfl ?_ ?_ | refine c_split_d rfl rfl ?_ ?_ | refine c_split_i rfl rfl ?_ ?_ | refine c_split_j rfl rfl ?_ ?_ | refine c_split_s rfl rfl ?_ ?_ | refine c_split_n rfl rfl ?_ ?_) <;> intro <;> try (first | (rename_i hz; exact Bool.noConfusion (show true = false from hz)) | (rename_i hz; exact Bool.noConfusion (show false = true from hz)) | (exfalso; omega))) | ((first | refine r_val rfl rfl ?_ ?_ | refine r_gval rfl rfl rfl rfl ?_ ?_ | refine r_obj rfl rfl ?_ ?_ | refine r_sto rfl ?_ ?_ | refine r_gobj rfl rfl rfl rfl ?_ ?_); focus (first | omega | exact Nat.le_of_ble_eq_true rfl | ((repeat first | rw [wrap_u8] | rw [IntKind.wrap_i64] | rw [IntKind.wrap_i32] | rw [wrap_u32'] | rw [wrap_u64']); (repeat' refine And.intro ?_ ?_) <;> omega) | ((repeat' refine And.intro ?_ ?_) <;> first | omega | rfl | exact Nat.le_refl _ | exact Nat.le_of_ble_eq_true rfl | exact bytesF_one _) | (simp_all; done) | (simp_all; omega))) | refine e_hit rfl ?_ | refine e_miss rfl ?_ | with_reducible refine ⟨by kernel_rfl, ?_⟩ | refine x_end rfl ?_ | refine n_end rfl ?_ | ((with_reducible refine c_grd ?_); (fail_if_success (refine c_lit true rfl rfl rfl ?_)); (fail_if_success (refine c_lit false rfl rfl rfl ?_)); refine c_split rfl rfl (fun _ => ?_) (fun _ => ?_)))
  refine T.loop hL (fun i : Nat => [(0, .sl 1 l.length (txF l)), (1, .s k), (5, .i .i64 i)]) (fun _ => [])
    (fun i => i ≤ l.length ∧ ∀ j, j < i → ¬ l.getD j [] = k) (fun i => l.length - i) 0 ⟨Nat.zero_le _, fun j h => absurd h (Nat.not_lt_zero _)⟩
    ⟨⟨rfl, rfl, rfl, trivial⟩, trivial, rfl, by rw [hX]; simp⟩ ?_
  rintro i ⟨h1, h2⟩
  have hnat : (i : Int).toNat = i := Int.toNat_natCast i
  by_cases hil : i < l.length
  · by_cases hq : l.getD i [] = k
    · have hq' : k = l.getD (i : Int).toNat [] := by rw [hnat]; exact hq.symm
      have hq2 : l.getD (i : Int).toNat [] = k := hq'.symm
      rw [idxJ_hit h2 hil hq]
      repeat' (first | with_reducible (first | refine t_seq ?_ | refine t_region ?_ | refine c_nil ?_ | refine n_then ?_ | refine t_ret ?_ | refine t_skip ?_ | refine t_exit ?_ | refine t_block ?_ | refine n_block ?_ | refine e_then ?_ | refine x_then ?_ | refine x_block ?_ | refine t_draw ?_) | refine r_val rfl rfl True.intro ?_ | refine r_gskip rfl rfl rfl ?_ | refine r_gskip2 rfl rfl rfl ?_ | refine r_gval rfl rfl rfl rfl True.intro ?_ | refine t_true rfl ?_ | refine t_false rfl ?_ | ((first | refine t_cond_d rfl ?_ ?_ | refine t_cond_i rfl ?_ ?_ | refine t_cond_j rfl ?_ ?_ | refine t_cond_s rfl ?_ ?_ | refine t_cond_n rfl ?_ ?_ | refine t_cond rfl ?_ ?_ | refine c_split_d rfl rfl ?_ ?_ | refine c_split_i rfl rfl ?_ ?_ | refine c_split_j rfl rfl ?_ ?_ | refine c_split_s rfl rfl ?_ ?_ | refine c_split_n rfl rfl ?_ ?_) <;> intro <;> try (first | (rename_i hz; exact Bool.noConfusion (show true = false from hz)) | (rename_i hz; exact Bool.noConfusion (show false = true from hz)) | (exfalso; omega))) | ((first | refine r_val rfl rfl ?_ ?_ | refine r_gval rfl rfl rfl rfl ?_ ?_ | refine r_obj rfl rfl ?_ ?_ | refine r_sto rfl ?_ ?_ | refine r_gobj rfl rfl rfl rfl ?_ ?_); focus (first | omega | exact Nat.le_of_ble_eq_true rfl | ((repeat first | rw [wrap_u8] | rw [IntKind.wrap_i64] | rw [IntKind.wrap_i32] | rw [wrap_u32'] | rw [wrap_u64']); (repeat' refine And.intro ?_ ?_) <;> omega) | ((repeat' refine And.intro ?_ ?_) <;> first | omega | rfl | exact Nat.le_refl _ | exact Nat.le_of_ble_eq_true rfl | exact bytesF_one _) | (simp_all; done) | (simp_all; omega))) | refine e_hit rfl ?_ | refine e_miss rfl ?_ | with_reducible refine ⟨by kernel_rfl, ?_⟩ | refine x_end rfl ?_ | refine n_end rfl ?_ | ((with_reducible refine c_grd ?_); (fail_if_success (refine c_lit true rfl rfl rfl ?_)); (fail_if_success (refine c_lit false rfl rfl rfl ?_)); refine c_split rfl rfl (fun _ => ?_) (fun _ => ?_)))
      all_goals first
        | rfl
        | (exfalso; rename_i q; exact q hq')
        | (exfalso; rename_i q; exact q hq2)
    · have hq' : ¬ k = l.getD (i : Int).toNat [] := by rw [hnat]; exact fun e => hq e.symm
      have hq2 : ¬ l.getD (i : Int).toNat [] = k := fun e => hq' e.symm
      repeat' (first | with_reducible (first | refine t_seq ?_ | refine t_region ?_ | refine c_nil ?_ | refine n_then ?_ | refine t_ret ?_ | refine t_skip ?_ | refine t_exit ?_ | refine t_block ?_ | refine n_block ?_ | refine e_then ?_ | refine x_then ?_ | refine x_block ?_ | refine t_draw ?_) | refine r_val rfl rfl True.intro ?_ | refine r_gskip rfl rfl rfl ?_ | refine r_gskip2 rfl rfl rfl ?_ | refine r_gval rfl rfl rfl rfl True.intro ?_ | refine t_true rfl ?_ | refine t_false rfl ?_ | ((first | refine t_cond_d rfl ?_ ?_ | refine t_cond_i rfl ?_ ?_ | refine t_cond_j rfl ?_ ?_ | refine t_cond_s rfl ?_ ?_ | refine t_cond_n rfl ?_ ?_ | refine t_cond rfl ?_ ?_ | refine c_split_d rfl rfl ?_ ?_ | refine c_split_i rfl rfl ?_ ?_ | refine c_split_j rfl rfl ?_ ?_ | refine c_split_s rfl rfl ?_ ?_ | refine c_split_n rfl rfl ?_ ?_) <;> intro <;> try (first | (rename_i hz; exact Bool.noConfusion (show true = false from hz)) | (rename_i hz; exact Bool.noConfusion (show false = true from hz)) | (exfalso; omega))) | ((first | refine r_val rfl rfl ?_ ?_ | refine r_gval rfl rfl rfl rfl ?_ ?_ | refine r_obj rfl rfl ?_ ?_ | refine r_sto rfl ?_ ?_ | refine r_gobj rfl rfl rfl rfl ?_ ?_); focus (first | omega | exact Nat.le_of_ble_eq_true rfl | ((repeat first | rw [wrap_u8] | rw [IntKind.wrap_i64] | rw [IntKind.wrap_i32] | rw [wrap_u32'] | rw [wrap_u64']); (repeat' refine And.intro ?_ ?_) <;> omega) | ((repeat' refine And.intro ?_ ?_) <;> first | omega | rfl | exact Nat.le_refl _ | exact Nat.le_of_ble_eq_true rfl | exact bytesF_one _) | (simp_all; done) | (simp_all; omega))) | refine e_hit rfl ?_ | refine e_miss rfl ?_ | with_reducible refine ⟨by kernel_rfl, ?_⟩ | refine x_end rfl ?_ | refine n_end rfl ?_ | ((with_reducible refine c_grd ?_); (fail_if_success (refine c_lit true rfl rfl rfl ?_)); (fail_if_success (refine c_lit false rfl rfl rfl ?_)); refine c_split rfl rfl (fun _ => ?_) (fun _ => ?_)))
      all_goals first
        | (exfalso; rename_i q; exact hq' q)
        | (exfalso; rename_i q; exact hq2 q)
        | exact ⟨i + 1, ⟨by omega, fun j hj => by
            by_cases e : j = i
            · subst e; exact hq
            · exact h2 j (by omega)⟩, by omega, ⟨rfl, rfl, congrArg (D.i .i64) (by omega), trivial⟩, trivial, rfl, by rw [hX]; simp⟩
  · rw [idxJ_miss (fun j hj => h2 j (by omega))]
    repeat' (first | with_reducible (first | refine t_seq ?_ | refine t_region ?_ | refine c_nil ?_ | refine n_then ?_ | refine t_ret ?_ | refine t_skip ?_ | refine t_exit ?_ | refine t_block ?_ | refine n_block ?_ | refine e_then ?_ | refine x_then ?_ | refine x_block ?_ | refine t_draw ?_) | refine r_val rfl rfl True.intro ?_ | refine r_gskip rfl rfl rfl ?_ | refine r_gskip2 rfl rfl rfl ?_ | refine r_gval rfl rfl rfl rfl True.intro ?_ | refine t_true rfl ?_ | refine t_false rfl ?_ | ((first | refine t_cond_d rfl ?_ ?_ | refine t_cond_i rfl ?_ ?_ | refine t_cond_j rfl ?_ ?_ | refine t_cond_s rfl ?_ ?_ | refine t_cond_n rfl ?_ ?_ | refine t_cond rfl ?_ ?_ | refine c_split_d rfl rfl ?_ ?_ | refine c_split_i rfl rfl ?_ ?_ | refine c_split_j rfl rfl ?_ ?_ | refine c_split_s rfl rfl ?_ ?_ | refine c_split_n rfl rfl ?_ ?_) <;> intro <;> try (first | (rename_i hz; exact Bool.noConfusion (show true = false from hz)) | (rename_i hz; exact Bool.noConfusion (show false = true from hz)) | (exfalso; omega))) | ((first | refine r_val rfl rfl ?_ ?_ | refine r_gval rfl rfl rfl rfl ?_ ?_ | refine r_obj rfl rfl ?_ ?_ | refine r_sto rfl ?_ ?_ | refine r_gobj rfl rfl rfl rfl ?_ ?_); focus (first | omega | exact Nat.le_of_ble_eq_true rfl | ((repeat first | rw [wrap_u8] | rw [IntKind.wrap_i64] | rw [IntKind.wrap_i32] | rw [wrap_u32'] | rw [wrap_u64']); (repeat' refine And.intro ?_ ?_) <;> omega) | ((repeat' refine And.intro ?_ ?_) <;> first | omega | rfl | exact Nat.le_refl _ | exact Nat.le_of_ble_eq_true rfl | exact bytesF_one _) | (simp_all; done) | (simp_all; omega))) | refine e_hit rfl ?_ | refine e_miss rfl ?_ | with_reducible refine ⟨by kernel_rfl, ?_⟩ | refine x_end rfl ?_ | refine n_end rfl ?_ | ((with_reducible refine c_grd ?_); (fail_if_success (refine c_lit true rfl rfl rfl ?_)); (fail_if_success (refine c_lit false rfl rfl rfl ?_)); refine c_split rfl rfl (fun _ => ?_) (fun _ => ?_)))
    all_goals rfl

end Go.Proofs.YtbegohehjkjnmaaGreatDoor.Flow

namespace Go.Proofs.YtbegohehjkjnmaaGreatDoor.Flow
open Go

def getJ (x : J) (k : List UInt8) : J × Bool := if x.kind = 5 ∧ 0 ≤ idxJ k x.keys ∧ idxJ k x.keys < x.list.length then (x.list.getD (idxJ k x.keys).toNat j0, true) else (j0, false)
def getD (r : J × Bool) : D := .tu [.ag (jP r.1), .b r.2]
theorem get_none : Weak (.tu [.ag j0C, .b false]) (getD (j0, false)) := by
  unfold getD
  refine .tu2 ?_ (.refl _)
  rw [← jC_P]
  exact lit_weak 0 false
theorem getD_free (r : J × Bool) : (getD r).free = true := rfl

end Go.Proofs.YtbegohehjkjnmaaGreatDoor.Flow

namespace Go.Proofs.YtbegohehjkjnmaaGreatDoor.Flow
open Go

def txL : List (List UInt8) → Nat
  | [] => 0
  | k :: r => k.length + 1 + txL r
mutual
def jb : J → Nat
  | .mk _ _ _ d _ t l ks => 1 + d.length + t.length + jbL l + txL ks
def jbL : List J → Nat
  | [] => 0
  | x :: r => jb x + jbL r
end
theorem jb_eq (x : J) : jb x = 1 + x.dig.length + x.text.length + jbL x.list + txL x.keys := by
  cases x
  rw [jb]
  rfl
theorem txL_len : ∀ l : List (List UInt8), l.length ≤ txL l
  | [] => Nat.zero_le _
  | k :: r => by
    have := txL_len r
    rw [txL, List.length_cons]
    omega
theorem jbL_at : ∀ {l : List J} {i : Nat}, i < l.length → jb (l.getD i j0) ≤ jbL l
  | [], _, h => by simp at h
  | x :: r, 0, _ => by
    rw [jbL]
    exact Nat.le_add_right _ _
  | x :: r, i + 1, h => by
    have := jbL_at (l := r) (i := i) (by simpa using h)
    rw [jbL]
    have e : (x :: r).getD (i + 1) j0 = r.getD i j0 := by simp
    rw [e]
    omega
mutual
theorem jw_jb : ∀ x : J, jw x ≤ jb x
  | .mk k y n d e t l ks => by
    have := jwL_jbL l
    have := txL_len ks
    rw [jw, jb]
    omega
theorem jwL_jbL : ∀ l : List J, jwL l ≤ jbL l
  | [] => Nat.le_refl _
  | x :: r => by
    have := jw_jb x
    have := jwL_jbL r
    rw [jwL, jbL]
    omega
end

def wsum (f : Nat → Int) (len : Nat) (i : Nat) (n : Int) : Int := if i < len ∧ n ≤ 400 then wsum f len (i + 1) (n + f i) else n
termination_by len - i
def ksum (ks : List (List UInt8)) (i : Nat) : Nat := txL (ks.drop i) - (ks.drop i).length
def wgJ : Nat → J → Int
  | 0, _ => 1000
  | d + 1, x => if 400 < x.list.length ∨ 400 < x.keys.length then 1000 else
    wsum (fun i => wgJ d (x.list.getD i j0)) x.list.length 0 (1 + x.text.length + x.dig.length + x.keys.length + (txL x.keys - x.keys.length : Nat))

theorem wsum_le {f : Nat → Int} {len : Nat} {m : Int} (hf : ∀ i, i < len → 0 ≤ f i ∧ f i ≤ m) : ∀ (k i : Nat) (n : Int), len - i ≤ k → 0 ≤ n → n ≤ wsum f len i n ∧ (wsum f len i n ≤ n ∨ wsum f len i n ≤ 400 + m) := by
  intro k
  induction k with
  | zero =>
    intro i n h hn
    rw [wsum, if_neg (by omega)]
    exact ⟨Int.le_refl _, .inl (Int.le_refl _)⟩
  | succ k ih =>
    intro i n h hn
    rw [wsum]
    by_cases c : i < len ∧ n ≤ 400
    · rw [if_pos c]
      have h1 := hf i c.1
      have h2 := ih (i + 1) (n + f i) (by omega) (by omega)
      exact ⟨by omega, by omega⟩
    · rw [if_neg c]
      exact ⟨Int.le_refl _, .inl (Int.le_refl _)⟩
theorem wgJ_le : ∀ (d : Nat) (x : J), jb x ≤ 4194304 → 0 ≤ wgJ d x ∧ wgJ d x ≤ 4194304 * 2 + 1000 * d := by
  intro d
  induction d with
  | zero => intro x _; exact ⟨by unfold wgJ; omega, by unfold wgJ; omega⟩
  | succ d ih =>
    intro x h
    have hb := jb_eq x
    have hk := txL_len x.keys
    unfold wgJ
    split
    · omega
    · have := wsum_le (f := fun i => wgJ d (x.list.getD i j0)) (len := x.list.length) (m := 4194304 * 2 + 1000 * d) (fun i hi => ih _ (by have := jbL_at hi; omega)) _ 0 (1 + x.text.length + x.dig.length + x.keys.length + (txL x.keys - x.keys.length : Nat)) (Nat.le_refl _) (by omega)
      omega
def kfront (ks : List (List UInt8)) : Nat → Nat
  | 0 => 0
  | i + 1 => kfront ks i + (ks.getD i []).length
theorem kfront_cons (k : List UInt8) (r : List (List UInt8)) : ∀ i, kfront (k :: r) (i + 1) = k.length + kfront r i
  | 0 => by simp [kfront]
  | i + 1 => by
    rw [kfront, kfront_cons k r i]
    simp only [kfront]
    simp only [List.getD_cons_succ]
    omega
theorem kfront_all : ∀ ks : List (List UInt8), kfront ks ks.length + ks.length = txL ks
  | [] => rfl
  | k :: r => by
    have := kfront_all r
    rw [List.length_cons, kfront_cons, txL]
    omega
theorem kfront_le {ks : List (List UInt8)} : ∀ {i : Nat}, i ≤ ks.length → kfront ks i ≤ kfront ks ks.length := by
  have step : ∀ (i m : Nat), kfront ks i ≤ kfront ks (i + m) := by
    intro i m
    induction m with
    | zero => exact Nat.le_refl _
    | succ m ih =>
      rw [← Nat.add_assoc, kfront]
      omega
  intro i h
  have := step i (ks.length - i)
  rw [show i + (ks.length - i) = ks.length by omega] at this
  exact this

set_option maxRecDepth 100000 in
set_option maxHeartbeats 4000000 in
theorem weigh_ctr : ∀ (dp : Nat) (x : J), dp ≤ 100 → jb x ≤ 4194304 → Ctr Tryz.prog 13 [.ag (jP x), .i .i64 dp] (.i .i64 (wgJ dp x)) := by
  intro dp
  induction dp with
  | zero =>
    intro x hd hb
    refine Ctr.weak2 ?_ (jP_Q x) (.refl _)
    have he := jb_eq x
    have hk := txL_len x.keys
    have hl := jw_jb x
    have hl2 := jwL_len x.list
    have hl3 := jw_eq x
    obtain ⟨k, b, g, d, e, t, l, ks⟩ := x
    replace he : jb (.mk k b g d e t l ks) = 1 + d.length + t.length + jbL l + txL ks := he
    replace hk : ks.length ≤ txL ks := hk
    show Ctr Tryz.prog 13 [.ag [.i .i64 k, .b b, .b g, .s d, .i .i64 e, .s t, .sl 8 l.length (jG l), .sl 1 ks.length (txF ks)], .i .i64 0] (.i .i64 1000)
    refine r_fun Tryz.func13 rfl Tryz.ntmps13 Tryz.results13 rfl rfl fun X hL hX => ?_
    repeat' (first | with_reducible (first | refine t_seq ?_ | refine t_region ?_ | refine c_nil ?_ | refine n_then ?_ | refine t_ret ?_ | refine t_skip ?_ | refine t_exit ?_ | refine t_block ?_ | refine n_block ?_ | refine e_then ?_ | refine x_then ?_ | refine x_block ?_ | refine t_draw ?_) | refine r_val rfl rfl True.intro ?_ | refine r_gskip rfl rfl rfl ?_ | refine r_gskip2 rfl rfl rfl ?_ | refine r_gval rfl rfl rfl rfl True.intro ?_ | refine t_true rfl ?_ | refine t_false rfl ?_ | ((first | refine t_cond_d rfl ?_ ?_ | refine t_cond_i rfl ?_ ?_ | refine t_cond_j rfl ?_ ?_ | refine t_cond_s rfl ?_ ?_ | refine t_cond_n rfl ?_ ?_ | refine t_cond rfl ?_ ?_ | refine c_split_d rfl rfl ?_ ?_ | refine c_split_i rfl rfl ?_ ?_ | refine c_split_j rfl rfl ?_ ?_ | refine c_split_s rfl rfl ?_ ?_ | refine c_split_n rfl rfl ?_ ?_) <;> intro <;> try (first | (rename_i hz; exact Bool.noConfusion (show true = false from hz)) | (rename_i hz; exact Bool.noConfusion (show false = true from hz)) | (exfalso; omega))) | ((first | refine r_val rfl rfl ?_ ?_ | refine r_gval rfl rfl rfl rfl ?_ ?_ | refine r_obj rfl rfl ?_ ?_ | refine r_sto rfl ?_ ?_ | refine r_gobj rfl rfl rfl rfl ?_ ?_); focus (first | omega | exact Nat.le_of_ble_eq_true rfl | ((repeat first | rw [wrap_u8] | rw [IntKind.wrap_i64] | rw [IntKind.wrap_i32] | rw [wrap_u32'] | rw [wrap_u64']); (repeat' refine And.intro ?_ ?_) <;> omega) | ((repeat' refine And.intro ?_ ?_) <;> first | omega | rfl | exact Nat.le_refl _ | exact Nat.le_of_ble_eq_true rfl | exact bytesF_one _) | (simp_all; done) | (simp_all; omega))) | refine e_hit rfl ?_ | refine e_miss rfl ?_ | with_reducible refine ⟨by kernel_rfl, ?_⟩ | refine x_end rfl ?_ | ((with_reducible refine c_grd ?_); (fail_if_success (refine c_lit true rfl rfl rfl ?_)); (fail_if_success (refine c_lit false rfl rfl rfl ?_)); refine c_split rfl rfl (fun _ => ?_) (fun _ => ?_)))
    all_goals rfl
  | succ dp ih =>
    intro x hd hb
    refine Ctr.weak2 ?_ (jP_Q x) (.refl _)
    have he := jb_eq x
    have hk := txL_len x.keys
    have hl : x.list.length ≤ 4194304 := by
      have := jw_jb x
      have := jwL_len x.list
      have := jw_eq x
      omega
    have hc : ∀ i, i < x.list.length → Ctr Tryz.prog 13 [.ag (jP (x.list.getD i j0)), .i .i64 dp] (.i .i64 (wgJ dp (x.list.getD i j0))) := fun i hi => ih _ (by omega) (by have := jbL_at hi; omega)
    have hr : ∀ i, i < x.list.length → 0 ≤ wgJ dp (x.list.getD i j0) ∧ wgJ dp (x.list.getD i j0) ≤ 100000000 := fun i hi => by
      have := wgJ_le dp (x.list.getD i j0) (by have := jbL_at hi; omega)
      omega
    have hka := kfront_all x.keys
    clear ih
    unfold wgJ
    obtain ⟨k, b, g, d, e, t, l, ks⟩ := x
    replace he : jb (.mk k b g d e t l ks) = 1 + d.length + t.length + jbL l + txL ks := he
    replace hk : ks.length ≤ txL ks := hk
    replace hl : l.length ≤ 4194304 := hl
    replace hka : kfront ks ks.length + ks.length = txL ks := hka
    replace hc : ∀ i, i < l.length → Ctr Tryz.prog 13 [.ag (jP (l.getD i j0)), .i .i64 dp] (.i .i64 (wgJ dp (l.getD i j0))) := hc
    replace hr : ∀ i, i < l.length → 0 ≤ wgJ dp (l.getD i j0) ∧ wgJ dp (l.getD i j0) ≤ 100000000 := hr
    have hkl := @kfront_le ks
    have hd1 : ((dp + 1 : Nat) : Int) - 1 = dp := by omega
    show Ctr Tryz.prog 13 [.ag [.i .i64 k, .b b, .b g, .s d, .i .i64 e, .s t, .sl 8 l.length (jG l), .sl 1 ks.length (txF ks)], .i .i64 (dp + 1 : Nat)] (.i .i64 (if 400 < l.length ∨ 400 < ks.length then 1000 else wsum (fun i => wgJ dp (l.getD i j0)) l.length 0 (1 + t.length + d.length + ks.length + (txL ks - ks.length : Nat))))
    by_cases a1 : 400 < l.length
    · rw [if_pos (.inl a1)]
      refine r_fun Tryz.func13 rfl Tryz.ntmps13 Tryz.results13 rfl rfl fun X hL hX => ?_
      repeat' (first | with_reducible (first | refine t_seq ?_ | refine t_region ?_ | refine c_nil ?_ | refine n_then ?_ | refine t_ret ?_ | refine t_skip ?_ | refine t_exit ?_ | refine t_block ?_ | refine n_block ?_ | refine e_then ?_ | refine x_then ?_ | refine x_block ?_ | refine t_draw ?_) | refine r_val rfl rfl True.intro ?_ | refine r_gskip rfl rfl rfl ?_ | refine r_gskip2 rfl rfl rfl ?_ | refine r_gval rfl rfl rfl rfl True.intro ?_ | refine t_true rfl ?_ | refine t_false rfl ?_ | ((first | refine t_cond_d rfl ?_ ?_ | refine t_cond_i rfl ?_ ?_ | refine t_cond_j rfl ?_ ?_ | refine t_cond_s rfl ?_ ?_ | refine t_cond_n rfl ?_ ?_ | refine t_cond rfl ?_ ?_ | refine c_split_d rfl rfl ?_ ?_ | refine c_split_i rfl rfl ?_ ?_ | refine c_split_j rfl rfl ?_ ?_ | refine c_split_s rfl rfl ?_ ?_ | refine c_split_n rfl rfl ?_ ?_) <;> intro <;> try (first | (rename_i hz; exact Bool.noConfusion (show true = false from hz)) | (rename_i hz; exact Bool.noConfusion (show false = true from hz)) | (exfalso; omega))) | ((first | refine r_val rfl rfl ?_ ?_ | refine r_gval rfl rfl rfl rfl ?_ ?_ | refine r_obj rfl rfl ?_ ?_ | refine r_sto rfl ?_ ?_ | refine r_gobj rfl rfl rfl rfl ?_ ?_); focus (first | omega | exact Nat.le_of_ble_eq_true rfl | ((repeat first | rw [wrap_u8] | rw [IntKind.wrap_i64] | rw [IntKind.wrap_i32] | rw [wrap_u32'] | rw [wrap_u64']); (repeat' refine And.intro ?_ ?_) <;> omega) | ((repeat' refine And.intro ?_ ?_) <;> first | omega | rfl | exact Nat.le_refl _ | exact Nat.le_of_ble_eq_true rfl | exact bytesF_one _) | (simp_all; done) | (simp_all; omega))) | refine e_hit rfl ?_ | refine e_miss rfl ?_ | with_reducible refine ⟨by kernel_rfl, ?_⟩ | refine x_end rfl ?_ | ((with_reducible refine c_grd ?_); (fail_if_success (refine c_lit true rfl rfl rfl ?_)); (fail_if_success (refine c_lit false rfl rfl rfl ?_)); refine c_split rfl rfl (fun _ => ?_) (fun _ => ?_)))
      all_goals rfl
    by_cases a2 : 400 < ks.length
    · rw [if_pos (.inr a2)]
      refine r_fun Tryz.func13 rfl Tryz.ntmps13 Tryz.results13 rfl rfl fun X hL hX => ?_
      repeat' (first | with_reducible (first | refine t_seq ?_ | refine t_region ?_ | refine c_nil ?_ | refine n_then ?_ | refine t_ret ?_ | refine t_skip ?_ | refine t_exit ?_ | refine t_block ?_ | refine n_block ?_ | refine e_then ?_ | refine x_then ?_ | refine x_block ?_ | refine t_draw ?_) | refine r_val rfl rfl True.intro ?_ | refine r_gskip rfl rfl rfl ?_ | refine r_gskip2 rfl rfl rfl ?_ | refine r_gval rfl rfl rfl rfl True.intro ?_ | refine t_true rfl ?_ | refine t_false rfl ?_ | ((first | refine t_cond_d rfl ?_ ?_ | refine t_cond_i rfl ?_ ?_ | refine t_cond_j rfl ?_ ?_ | refine t_cond_s rfl ?_ ?_ | refine t_cond_n rfl ?_ ?_ | refine t_cond rfl ?_ ?_ | refine c_split_d rfl rfl ?_ ?_ | refine c_split_i rfl rfl ?_ ?_ | refine c_split_j rfl rfl ?_ ?_ | refine c_split_s rfl rfl ?_ ?_ | refine c_split_n rfl rfl ?_ ?_) <;> intro <;> try (first | (rename_i hz; exact Bool.noConfusion (show true = false from hz)) | (rename_i hz; exact Bool.noConfusion (show false = true from hz)) | (exfalso; omega))) | ((first | refine r_val rfl rfl ?_ ?_ | refine r_gval rfl rfl rfl rfl ?_ ?_ | refine r_obj rfl rfl ?_ ?_ | refine r_sto rfl ?_ ?_ | refine r_gobj rfl rfl rfl rfl ?_ ?_); focus (first | omega | exact Nat.le_of_ble_eq_true rfl | ((repeat first | rw [wrap_u8] | rw [IntKind.wrap_i64] | rw [IntKind.wrap_i32] | rw [wrap_u32'] | rw [wrap_u64']); (repeat' refine And.intro ?_ ?_) <;> omega) | ((repeat' refine And.intro ?_ ?_) <;> first | omega | rfl | exact Nat.le_refl _ | exact Nat.le_of_ble_eq_true rfl | exact bytesF_one _) | (simp_all; done) | (simp_all; omega))) | refine e_hit rfl ?_ | refine e_miss rfl ?_ | with_reducible refine ⟨by kernel_rfl, ?_⟩ | refine x_end rfl ?_ | ((with_reducible refine c_grd ?_); (fail_if_success (refine c_lit true rfl rfl rfl ?_)); (fail_if_success (refine c_lit false rfl rfl rfl ?_)); refine c_split rfl rfl (fun _ => ?_) (fun _ => ?_)))
      all_goals rfl
    rw [if_neg (fun q => q.elim a1 a2)]
    refine r_fun Tryz.func13 rfl Tryz.ntmps13 Tryz.results13 rfl rfl fun X hL hX => ?_
    repeat' (first | with_reducible (first | refine t_seq ?_ | refine t_region ?_ | refine c_nil ?_ | refine n_then ?_ | refine t_ret ?_ | refine t_skip ?_ | refine t_exit ?_ | refine t_block ?_ | refine n_block ?_ | refine e_then ?_ | refine x_then ?_ | refine x_block ?_ | refine t_draw ?_) | refine r_val rfl rfl True.intro ?_ | refine r_gskip rfl rfl rfl ?_ | refine r_gskip2 rfl rfl rfl ?_ | refine r_gval rfl rfl rfl rfl True.intro ?_ | refine t_true rfl ?_ | refine t_false rfl ?_ | ((first | refine t_cond_d rfl ?_ ?_ | refine t_cond_i rfl ?_ ?_ | refine t_cond_j rfl ?_ ?_ | refine t_cond_s rfl ?_ ?_ | refine t_cond_n rfl ?_ ?_ | refine t_cond rfl ?_ ?_ | refine c_split_d rfl rfl ?_ ?_ | refine c_split_i rfl rfl ?_ ?_ | refine c_split_j rfl rfl ?_ ?_ | refine c_split_s rfl rfl ?_ ?_ | refine c_split_n rfl rfl ?_ ?_) <;> intro <;> try (first | (rename_i hz; exact Bool.noConfusion (show true = false from hz)) | (rename_i hz; exact Bool.noConfusion (show false = true from hz)) | (exfalso; omega))) | ((first | refine r_val rfl rfl ?_ ?_ | refine r_gval rfl rfl rfl rfl ?_ ?_ | refine r_obj rfl rfl ?_ ?_ | refine r_sto rfl ?_ ?_ | refine r_gobj rfl rfl rfl rfl ?_ ?_); focus (first | omega | exact Nat.le_of_ble_eq_true rfl | ((repeat first | rw [wrap_u8] | rw [IntKind.wrap_i64] | rw [IntKind.wrap_i32] | rw [wrap_u32'] | rw [wrap_u64']); (repeat' refine And.intro ?_ ?_) <;> omega) | ((repeat' refine And.intro ?_ ?_) <;> first | omega | rfl | exact Nat.le_refl _ | exact Nat.le_of_ble_eq_true rfl | exact bytesF_one _) | (simp_all; done) | (simp_all; omega))) | refine e_hit rfl ?_ | refine e_miss rfl ?_ | with_reducible refine ⟨by kernel_rfl, ?_⟩ | refine x_end rfl ?_ | ((with_reducible refine c_grd ?_); (fail_if_success (refine c_lit true rfl rfl rfl ?_)); (fail_if_success (refine c_lit false rfl rfl rfl ?_)); refine c_split rfl rfl (fun _ => ?_) (fun _ => ?_)))
    refine T.loop hL (fun i : Nat => [(1, .i .i64 (dp + 1 : Nat)), (2, .pv 2 0), (5, .i .i64 (1 + t.length + d.length + ks.length + kfront ks i)), (6, .i .i64 i)]) (fun _ => [(2, .var [.i .i64 k, .b b, .b g, .s d, .i .i64 e, .s t, .sl 8 l.length (jG l), .sl 1 ks.length (txF ks)])])
      (fun i => i ≤ ks.length) (fun i => ks.length - i) 0 (Nat.zero_le _)
      ⟨⟨rfl, rfl, congrArg (D.i .i64) (by simp [kfront]), rfl, trivial⟩, ⟨rfl, trivial⟩, rfl, by rw [hX]; simp⟩ ?_
    intro i g1
    have hki := hkl g1
    have hnat : (i : Int).toNat = i := Int.toNat_natCast i
    by_cases hil : i < ks.length
    · have hki2 := @hkl (i + 1) hil
      have hke : kfront ks (i + 1) = kfront ks i + (ks.getD i []).length := rfl
      have hke' : kfront ks (i + 1) = kfront ks i + (ks.getD (i : Int).toNat []).length := by rw [hnat]; rfl
      repeat' (first | with_reducible (first | refine t_seq ?_ | refine t_region ?_ | refine c_nil ?_ | refine n_then ?_ | refine t_ret ?_ | refine t_skip ?_ | refine t_exit ?_ | refine t_block ?_ | refine n_block ?_ | refine e_then ?_ | refine x_then ?_ | refine x_block ?_ | refine t_draw ?_) | refine r_val rfl rfl True.intro ?_ | refine r_gskip rfl rfl rfl ?_ | refine r_gskip2 rfl rfl rfl ?_ | refine r_gval rfl rfl rfl rfl True.intro ?_ | refine t_true rfl ?_ | refine t_false rfl ?_ | ((first | refine t_cond_d rfl ?_ ?_ | refine t_cond_i rfl ?_ ?_ | refine t_cond_j rfl ?_ ?_ | refine t_cond_s rfl ?_ ?_ | refine t_cond_n rfl ?_ ?_ | refine t_cond rfl ?_ ?_ | refine c_split_d rfl rfl ?_ ?_ | refine c_split_i rfl rfl ?_ ?_ | refine c_split_j rfl rfl ?_ ?_ | refine c_split_s rfl rfl ?_ ?_ | refine c_split_n rfl rfl ?_ ?_) <;> intro <;> try (first | (rename_i hz; exact Bool.noConfusion (show true = false from hz)) | (rename_i hz; exact Bool.noConfusion (show false = true from hz)) | (exfalso; omega))) | ((first | refine r_val rfl rfl ?_ ?_ | refine r_gval rfl rfl rfl rfl ?_ ?_ | refine r_obj rfl rfl ?_ ?_ | refine r_sto rfl ?_ ?_ | refine r_gobj rfl rfl rfl rfl ?_ ?_); focus (first | omega | exact Nat.le_of_ble_eq_true rfl | ((repeat first | rw [wrap_u8] | rw [IntKind.wrap_i64] | rw [IntKind.wrap_i32] | rw [wrap_u32'] | rw [wrap_u64']); (repeat' refine And.intro ?_ ?_) <;> omega) | ((repeat' refine And.intro ?_ ?_) <;> first | omega | rfl | exact Nat.le_refl _ | exact Nat.le_of_ble_eq_true rfl | exact bytesF_one _) | (simp_all; done) | (simp_all; omega))) | refine e_hit rfl ?_ | refine e_miss rfl ?_ | with_reducible refine ⟨by kernel_rfl, ?_⟩ | refine x_end rfl ?_ | ((with_reducible refine c_grd ?_); (fail_if_success (refine c_lit true rfl rfl rfl ?_)); (fail_if_success (refine c_lit false rfl rfl rfl ?_)); refine c_split rfl rfl (fun _ => ?_) (fun _ => ?_)))
      all_goals exact ⟨i + 1, by omega, by omega, ⟨rfl, rfl, congrArg (D.i .i64) (by rw [hke']; push_cast; omega), congrArg (D.i .i64) (by omega), trivial⟩, ⟨rfl, trivial⟩, rfl, by rw [hX]; simp⟩
    · have hie : i = ks.length := by omega
      have hn0 : (1 + t.length + d.length + ks.length + (txL ks - ks.length : Nat) : Int) = 1 + t.length + d.length + ks.length + kfront ks i := by
        rw [hie]
        omega
      rw [hn0]
      repeat' (first | with_reducible (first | refine t_seq ?_ | refine t_region ?_ | refine c_nil ?_ | refine n_then ?_ | refine t_ret ?_ | refine t_skip ?_ | refine t_exit ?_ | refine t_block ?_ | refine n_block ?_ | refine e_then ?_ | refine x_then ?_ | refine x_block ?_ | refine t_draw ?_) | refine r_val rfl rfl True.intro ?_ | refine r_gskip rfl rfl rfl ?_ | refine r_gskip2 rfl rfl rfl ?_ | refine r_gval rfl rfl rfl rfl True.intro ?_ | refine t_true rfl ?_ | refine t_false rfl ?_ | ((first | refine t_cond_d rfl ?_ ?_ | refine t_cond_i rfl ?_ ?_ | refine t_cond_j rfl ?_ ?_ | refine t_cond_s rfl ?_ ?_ | refine t_cond_n rfl ?_ ?_ | refine t_cond rfl ?_ ?_ | refine c_split_d rfl rfl ?_ ?_ | refine c_split_i rfl rfl ?_ ?_ | refine c_split_j rfl rfl ?_ ?_ | refine c_split_s rfl rfl ?_ ?_ | refine c_split_n rfl rfl ?_ ?_) <;> intro <;> try (first | (rename_i hz; exact Bool.noConfusion (show true = false from hz)) | (rename_i hz; exact Bool.noConfusion (show false = true from hz)) | (exfalso; omega))) | ((first | refine r_val rfl rfl ?_ ?_ | refine r_gval rfl rfl rfl rfl ?_ ?_ | refine r_obj rfl rfl ?_ ?_ | refine r_sto rfl ?_ ?_ | refine r_gobj rfl rfl rfl rfl ?_ ?_); focus (first | omega | exact Nat.le_of_ble_eq_true rfl | ((repeat first | rw [wrap_u8] | rw [IntKind.wrap_i64] | rw [IntKind.wrap_i32] | rw [wrap_u32'] | rw [wrap_u64']); (repeat' refine And.intro ?_ ?_) <;> omega) | ((repeat' refine And.intro ?_ ?_) <;> first | omega | rfl | exact Nat.le_refl _ | exact Nat.le_of_ble_eq_true rfl | exact bytesF_one _) | (simp_all; done) | (simp_all; omega))) | refine e_hit rfl ?_ | refine e_miss rfl ?_ | with_reducible refine ⟨by kernel_rfl, ?_⟩ | refine x_end rfl ?_ | ((with_reducible refine c_grd ?_); (fail_if_success (refine c_lit true rfl rfl rfl ?_)); (fail_if_success (refine c_lit false rfl rfl rfl ?_)); refine c_split rfl rfl (fun _ => ?_) (fun _ => ?_)))
      refine T.loop hL (fun p : Nat × Int => [(1, .i .i64 (dp + 1 : Nat)), (2, .pv 2 0), (5, .i .i64 p.2), (7, .i .i64 p.1)]) (fun _ => [(2, .var [.i .i64 k, .b b, .b g, .s d, .i .i64 e, .s t, .sl 8 l.length (jG l), .sl 1 ks.length (txF ks)])])
        (fun p => p.1 ≤ l.length ∧ 0 ≤ p.2 ∧ p.2 ≤ 200000000 ∧ wsum (fun i => wgJ dp (l.getD i j0)) l.length 0 (1 + t.length + d.length + ks.length + kfront ks i) = wsum (fun i => wgJ dp (l.getD i j0)) l.length p.1 p.2) (fun p => l.length - p.1) (0, 1 + t.length + d.length + ks.length + kfront ks i) ⟨Nat.zero_le _, by dsimp only; omega, by dsimp only; omega, rfl⟩
        ⟨⟨rfl, rfl, rfl, rfl, trivial⟩, ⟨rfl, trivial⟩, rfl, by rw [hX]; simp⟩ ?_
      rintro ⟨j, n⟩ ⟨q1, q2, q3, q4⟩
      dsimp only at q1 q2 q3 q4 ⊢
      rw [q4]
      clear q4
      have hnat : (j : Int).toNat = j := Int.toNat_natCast j
      by_cases hj : j < l.length
      · by_cases hn : n ≤ 400
        · have c := hc j hj
          have hr := hr j hj
          rw [← hd1] at c
          replace c : Ctr Tryz.prog 13 [.ag (jP (l.getD (j : Int).toNat j0)), .i .i64 (((dp + 1 : Nat) : Int) - 1)] (.i .i64 (wgJ dp (l.getD j j0))) := by rw [hnat]; exact c
          rw [show wsum (fun i => wgJ dp (l.getD i j0)) l.length j n = wsum (fun i => wgJ dp (l.getD i j0)) l.length (j + 1) (n + wgJ dp (l.getD j j0)) by
            conv => lhs; rw [wsum]
            rw [if_pos ⟨hj, hn⟩]]
          generalize wgJ dp (l.getD j j0) = v at *
          repeat' (first | refine r_call (f := 13) rfl rfl Tryz.call13 rfl c ?_ | with_reducible (first | refine t_seq ?_ | refine t_region ?_ | refine c_nil ?_ | refine n_then ?_ | refine t_ret ?_ | refine t_skip ?_ | refine t_exit ?_ | refine t_block ?_ | refine n_block ?_ | refine e_then ?_ | refine x_then ?_ | refine x_block ?_ | refine t_draw ?_) | refine r_val rfl rfl True.intro ?_ | refine r_gskip rfl rfl rfl ?_ | refine r_gskip2 rfl rfl rfl ?_ | refine r_gval rfl rfl rfl rfl True.intro ?_ | refine t_true rfl ?_ | refine t_false rfl ?_ | ((first | refine t_cond_d rfl ?_ ?_ | refine t_cond_i rfl ?_ ?_ | refine t_cond_j rfl ?_ ?_ | refine t_cond_s rfl ?_ ?_ | refine t_cond_n rfl ?_ ?_ | refine t_cond rfl ?_ ?_ | refine c_split_d rfl rfl ?_ ?_ | refine c_split_i rfl rfl ?_ ?_ | refine c_split_j rfl rfl ?_ ?_ | refine c_split_s rfl rfl ?_ ?_ | refine c_split_n rfl rfl ?_ ?_) <;> intro <;> try (first | (rename_i hz; exact Bool.noConfusion (show true = false from hz)) | (rename_i hz; exact Bool.noConfusion (show false = true from hz)) | (exfalso; omega))) | ((first | refine r_val rfl rfl ?_ ?_ | refine r_gval rfl rfl rfl rfl ?_ ?_ | refine r_obj rfl rfl ?_ ?_ | refine r_sto rfl ?_ ?_ | refine r_gobj rfl rfl rfl rfl ?_ ?_); focus (first | omega | exact Nat.le_of_ble_eq_true rfl | ((repeat first | rw [wrap_u8] | rw [IntKind.wrap_i64] | rw [IntKind.wrap_i32] | rw [wrap_u32'] | rw [wrap_u64']); (repeat' refine And.intro ?_ ?_) <;> omega) | ((repeat' refine And.intro ?_ ?_) <;> first | omega | rfl | exact Nat.le_refl _ | exact Nat.le_of_ble_eq_true rfl | exact bytesF_one _) | (simp_all; done) | (simp_all; omega))) | refine e_hit rfl ?_ | refine e_miss rfl ?_ | with_reducible refine ⟨by kernel_rfl, ?_⟩ | refine x_end rfl ?_ | ((with_reducible refine c_grd ?_); (fail_if_success (refine c_lit true rfl rfl rfl ?_)); (fail_if_success (refine c_lit false rfl rfl rfl ?_)); refine c_split rfl rfl (fun _ => ?_) (fun _ => ?_)))
          all_goals exact ⟨(j + 1, n + v), ⟨by dsimp only; omega, by dsimp only; omega, by dsimp only; omega, rfl⟩, by dsimp only; omega, ⟨rfl, rfl, rfl, congrArg (D.i .i64) (by dsimp only; omega), trivial⟩, ⟨rfl, trivial⟩, rfl, by rw [hX]; simp⟩
        · rw [wsum, if_neg (fun q => hn q.2)]
          repeat' (first | with_reducible (first | refine t_seq ?_ | refine t_region ?_ | refine c_nil ?_ | refine n_then ?_ | refine t_ret ?_ | refine t_skip ?_ | refine t_exit ?_ | refine t_block ?_ | refine n_block ?_ | refine e_then ?_ | refine x_then ?_ | refine x_block ?_ | refine t_draw ?_) | refine r_val rfl rfl True.intro ?_ | refine r_gskip rfl rfl rfl ?_ | refine r_gskip2 rfl rfl rfl ?_ | refine r_gval rfl rfl rfl rfl True.intro ?_ | refine t_true rfl ?_ | refine t_false rfl ?_ | ((first | refine t_cond_d rfl ?_ ?_ | refine t_cond_i rfl ?_ ?_ | refine t_cond_j rfl ?_ ?_ | refine t_cond_s rfl ?_ ?_ | refine t_cond_n rfl ?_ ?_ | refine t_cond rfl ?_ ?_ | refine c_split_d rfl rfl ?_ ?_ | refine c_split_i rfl rfl ?_ ?_ | refine c_split_j rfl rfl ?_ ?_ | refine c_split_s rfl rfl ?_ ?_ | refine c_split_n rfl rfl ?_ ?_) <;> intro <;> try (first | (rename_i hz; exact Bool.noConfusion (show true = false from hz)) | (rename_i hz; exact Bool.noConfusion (show false = true from hz)) | (exfalso; omega))) | ((first | refine r_val rfl rfl ?_ ?_ | refine r_gval rfl rfl rfl rfl ?_ ?_ | refine r_obj rfl rfl ?_ ?_ | refine r_sto rfl ?_ ?_ | refine r_gobj rfl rfl rfl rfl ?_ ?_); focus (first | omega | exact Nat.le_of_ble_eq_true rfl | ((repeat first | rw [wrap_u8] | rw [IntKind.wrap_i64] | rw [IntKind.wrap_i32] | rw [wrap_u32'] | rw [wrap_u64']); (repeat' refine And.intro ?_ ?_) <;> omega) | ((repeat' refine And.intro ?_ ?_) <;> first | omega | rfl | exact Nat.le_refl _ | exact Nat.le_of_ble_eq_true rfl | exact bytesF_one _) | (simp_all; done) | (simp_all; omega))) | refine e_hit rfl ?_ | refine e_miss rfl ?_ | with_reducible refine ⟨by kernel_rfl, ?_⟩ | refine x_end rfl ?_ | ((with_reducible refine c_grd ?_); (fail_if_success (refine c_lit true rfl rfl rfl ?_)); (fail_if_success (refine c_lit false rfl rfl rfl ?_)); refine c_split rfl rfl (fun _ => ?_) (fun _ => ?_)))
          all_goals rfl
      · rw [wsum, if_neg (fun q => hj q.1)]
        repeat' (first | with_reducible (first | refine t_seq ?_ | refine t_region ?_ | refine c_nil ?_ | refine n_then ?_ | refine t_ret ?_ | refine t_skip ?_ | refine t_exit ?_ | refine t_block ?_ | refine n_block ?_ | refine e_then ?_ | refine x_then ?_ | refine x_block ?_ | refine t_draw ?_) | refine r_val rfl rfl True.intro ?_ | refine r_gskip rfl rfl rfl ?_ | refine r_gskip2 rfl rfl rfl ?_ | refine r_gval rfl rfl rfl rfl True.intro ?_ | refine t_true rfl ?_ | refine t_false rfl ?_ | ((first | refine t_cond_d rfl ?_ ?_ | refine t_cond_i rfl ?_ ?_ | refine t_cond_j rfl ?_ ?_ | refine t_cond_s rfl ?_ ?_ | refine t_cond_n rfl ?_ ?_ | refine t_cond rfl ?_ ?_ | refine c_split_d rfl rfl ?_ ?_ | refine c_split_i rfl rfl ?_ ?_ | refine c_split_j rfl rfl ?_ ?_ | refine c_split_s rfl rfl ?_ ?_ | refine c_split_n rfl rfl ?_ ?_) <;> intro <;> try (first | (rename_i hz; exact Bool.noConfusion (show true = false from hz)) | (rename_i hz; exact Bool.noConfusion (show false = true from hz)) | (exfalso; omega))) | ((first | refine r_val rfl rfl ?_ ?_ | refine r_gval rfl rfl rfl rfl ?_ ?_ | refine r_obj rfl rfl ?_ ?_ | refine r_sto rfl ?_ ?_ | refine r_gobj rfl rfl rfl rfl ?_ ?_); focus (first | omega | exact Nat.le_of_ble_eq_true rfl | ((repeat first | rw [wrap_u8] | rw [IntKind.wrap_i64] | rw [IntKind.wrap_i32] | rw [wrap_u32'] | rw [wrap_u64']); (repeat' refine And.intro ?_ ?_) <;> omega) | ((repeat' refine And.intro ?_ ?_) <;> first | omega | rfl | exact Nat.le_refl _ | exact Nat.le_of_ble_eq_true rfl | exact bytesF_one _) | (simp_all; done) | (simp_all; omega))) | refine e_hit rfl ?_ | refine e_miss rfl ?_ | with_reducible refine ⟨by kernel_rfl, ?_⟩ | refine x_end rfl ?_ | ((with_reducible refine c_grd ?_); (fail_if_success (refine c_lit true rfl rfl rfl ?_)); (fail_if_success (refine c_lit false rfl rfl rfl ?_)); refine c_split rfl rfl (fun _ => ?_) (fun _ => ?_)))
        all_goals rfl

theorem big_ctr (x : J) (hb : jb x ≤ 4194304) : Ctr Tryz.prog 4 [.ag (jP x)] (.b (decide (400 < wgJ 80 x))) := by
  have c1 := weigh_ctr 80 x (by decide) hb
  generalize wgJ 80 x = n at *
  replace c1 : Ctr Tryz.prog 13 [.ag (jP x), .i .i64 80] (.i .i64 n) := c1
  refine r_fun Tryz.func4 rfl Tryz.ntmps4 Tryz.results4 rfl rfl fun X hL hX => ?_
  repeat' (first | refine r_call (f := 13) rfl rfl Tryz.call13 rfl c1 ?_ | with_reducible (first | refine t_seq ?_ | refine t_region ?_ | refine c_nil ?_ | refine n_then ?_ | refine t_ret ?_ | refine t_skip ?_ | refine t_exit ?_ | refine t_block ?_ | refine n_block ?_ | refine e_then ?_ | refine x_then ?_ | refine x_block ?_ | refine t_draw ?_) | refine r_val rfl rfl True.intro ?_ | refine r_gskip rfl rfl rfl ?_ | refine r_gskip2 rfl rfl rfl ?_ | refine r_gval rfl rfl rfl rfl True.intro ?_ | refine t_true rfl ?_ | refine t_false rfl ?_ | ((first | refine t_cond_d rfl ?_ ?_ | refine t_cond_i rfl ?_ ?_ | refine t_cond_j rfl ?_ ?_ | refine t_cond_s rfl ?_ ?_ | refine t_cond_n rfl ?_ ?_ | refine t_cond rfl ?_ ?_ | refine c_split_d rfl rfl ?_ ?_ | refine c_split_i rfl rfl ?_ ?_ | refine c_split_j rfl rfl ?_ ?_ | refine c_split_s rfl rfl ?_ ?_ | refine c_split_n rfl rfl ?_ ?_) <;> intro <;> try (first | (rename_i hz; exact Bool.noConfusion (show true = false from hz)) | (rename_i hz; exact Bool.noConfusion (show false = true from hz)) | (exfalso; omega))) | ((first | refine r_val rfl rfl ?_ ?_ | refine r_gval rfl rfl rfl rfl ?_ ?_ | refine r_obj rfl rfl ?_ ?_ | refine r_sto rfl ?_ ?_ | refine r_gobj rfl rfl rfl rfl ?_ ?_); focus (first | omega | exact Nat.le_of_ble_eq_true rfl | ((repeat first | rw [wrap_u8] | rw [IntKind.wrap_i64] | rw [IntKind.wrap_i32] | rw [wrap_u32'] | rw [wrap_u64']); (repeat' refine And.intro ?_ ?_) <;> omega) | ((repeat' refine And.intro ?_ ?_) <;> first | omega | rfl | exact Nat.le_refl _ | exact Nat.le_of_ble_eq_true rfl | exact bytesF_one _) | (simp_all; done) | (simp_all; omega))) | refine e_hit rfl ?_ | refine e_miss rfl ?_ | with_reducible refine ⟨by kernel_rfl, ?_⟩ | refine x_end rfl ?_ | ((with_reducible refine c_grd ?_); (fail_if_success (refine c_lit true rfl rfl rfl ?_)); (fail_if_success (refine c_lit false rfl rfl rfl ?_)); refine c_split rfl rfl (fun _ => ?_) (fun _ => ?_)))
  all_goals rfl

end Go.Proofs.YtbegohehjkjnmaaGreatDoor.Flow

namespace Go.Proofs.YtbegohehjkjnmaaGreatDoor.Flow
open Go

theorem Chg.setObj (w : World) (S : Cells) (b : Nat) (x : Obj) (hS : ∀ o, ¬ S b o) : Chg w { w with heap := w.heap.setIfInBounds b x } S (some b) where
  os := rfl
  tape := rfl
  output := rfl
  size := by simp
  block := fun k _ hne => by
    have : b ≠ k := fun e => hne (by rw [e])
    simp [this]
  cell := fun b' o hb => by
    have : b ≠ b' := fun e => hS o (by rw [e]; exact hb)
    have e : ({ w with heap := w.heap.setIfInBounds b x } : World).heap[b']? = w.heap[b']? := by simp [this]
    exact World.cell?_of_block e

section
variable {P : Program} {X : Ctx} {n : Nat} {O : Nat → Option Own}

variable {o : Oper} {fr : Fr} {ow : Ow} {t k pos : Nat} {ty : TypeId} {x : Operand} {l : List UInt8}

end

section
variable {X : Ctx} {n : Nat} {all rest : List Oper} {fr : Fr} {ow : Ow} {tr : List (List Nat × List Nat)} {K : Fr → Ow → List (List Nat × List Nat) → Prop}
variable {t k pos : Nat} {ty ty' : TypeId} {ps : String} {af : Array Edge} {x : Operand} {l : List UInt8}

end
end Go.Proofs.YtbegohehjkjnmaaGreatDoor.Flow

namespace Go.Proofs.YtbegohehjkjnmaaGreatDoor.Flow
open Go

section
variable {P : Program} {X : Ctx} {n : Nat} {O : Nat → Option Own}

variable {o : Oper} {fr : Fr} {ow : Ow} {t k : Nat} {ty : TypeId} {x : Operand}

end

section
variable {X : Ctx} {n : Nat} {all rest : List Oper} {fr : Fr} {ow : Ow} {tr : List (List Nat × List Nat)} {K : Fr → Ow → List (List Nat × List Nat) → Prop}
variable {t k : Nat} {ty ty' : TypeId} {ps : String} {af : Array Edge} {x : Operand}

end
end Go.Proofs.YtbegohehjkjnmaaGreatDoor.Flow

namespace Go.Proofs.YtbegohehjkjnmaaGreatDoor.Flow
open Go

theorem var_step {P : Program} {X : Ctx} {n : Nat} {o : Oper} {fr : Fr} {ow : Ow} {ty : TypeId} {k : Nat} {B' : Tb} {zd : D} (hB : tb P = B') (ho : o.op = .alloc ty) (hz : B'.zr ty = some zd) (hs : zd.solid = true) (h1 : zd.cells.all D.one = true) (hk : look k ow = none) (hd : dstOk o.dst n) :
    ∀ F' O', (∀ y ∈ o.op.operands.toList, evF F' y = evF (fF fr) y) → (∀ j ∈ [k], O' j = fO ow j) → StepAt P X n o F' O' (.pv k 0) [(k, .var zd.cells)] := by
  intro F' O' he hO
  have hz' : zeroD P ty = some zd := by subst hB; exact hz
  obtain ⟨i, zv, g1, g2, g3⟩ := zeroD_spec hz'
  refine stepAt_of hd fun a w S r hH hI hr => ?_
  have hk' : O' k = none := (hO k (by simp)).trans hk
  have hv := ofVal_rel S w r zv
  rw [← g3] at hv
  obtain ⟨S', r', q1, q2, q3, q4, q5, q6⟩ := box_ok ty hH hI hv hs h1 hk'
  refine ⟨_, _, S', r', .inl ?_, q1, q2, q3, q4, q5, q6⟩
  simp [execOp, ho, Instr.alloc, zeroValue, typeInfo, g1, g2, newVar, newRow]

section
variable {X : Ctx} {n : Nat} {all rest : List Oper} {fr : Fr} {ow : Ow} {tr : List (List Nat × List Nat)} {K : Fr → Ow → List (List Nat × List Nat) → Prop}
variable {t k : Nat} {op : Op} {ty ty' : TypeId} {ps : String} {af : Array Edge} {d : D} {f : FuncId} {args : List D} {g u : Nat} {want : Bool}

theorem var_aux {zd : D} (k : Nat) (o : Oper) (ho : o.op = .alloc ty) (hg : o.guard = none) (hds : o.dst = some t) (hz : B.zr ty = some zd) (hs : zd.solid = true) (h1 : zd.cells.all D.one = true) (hk : look k ow = none) (hn : Nat.blt t n = true)
    (h : CT Tryz.prog X n all rest ((t, .pv k 0) :: fr) ((k, .var zd.cells) :: ow) (tr ++ [([k], [k])]) K) : CT Tryz.prog X n all (o :: rest) fr ow tr K := by
  have e := tb_eq
  have h1' := @var_step Tryz.prog X n o fr ow ty k B zd e ho hz hs h1 hk (by rw [hds]; exact Nat.le_of_ble_eq_true hn)
  refine CT.cons (e := ⟨.pv k 0, [k], [(k, .var zd.cells)]⟩) (.plain hg h1') ?_ (fO_cons ..) h
  rw [hds]
  exact fF_cons ..

theorem r_varAt {zd : D} (k : Nat) (hz : B.zr ty = some zd) (hs : zd.solid = true) (h1 : zd.cells.all D.one = true) (hk : look k ow = none) (hn : Nat.blt t n = true)
    (h : CT Tryz.prog X n all rest ((t, .pv k 0) :: fr) ((k, .var zd.cells) :: ow) (tr ++ [([k], [k])]) K) : CT Tryz.prog X n all (⟨some t, .alloc ty, ty', ps, af, none⟩ :: rest) fr ow tr K := by
  generalize ho : (⟨some t, .alloc ty, ty', ps, af, none⟩ : Oper) = o
  exact var_aux k o (by rw [← ho]) (by rw [← ho]) (by rw [← ho]) hz hs h1 hk hn h
end

end Go.Proofs.YtbegohehjkjnmaaGreatDoor.Flow
