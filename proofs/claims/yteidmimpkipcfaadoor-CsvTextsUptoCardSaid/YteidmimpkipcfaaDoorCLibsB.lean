/- LIBS: strings.ReplaceAll, strings.Join, the builder's look at itself (the kit's contracts, laid at this seat), as Flow's. -/
import Derived.Test.YteidmimpkipcfaaDoorCLibs
import Derived.Test.YteidmimpkipcfaaDoorCFlowV
import Derived.Lib.ReplaceLaws
namespace Go.Proofs.YteidmimpkipcfaaDoor.Flow
open Go

theorem three_of {vs : Array Value} (h : vs.size = 3) : vs = #[vs.getD 0 undef, vs.getD 1 undef, vs.getD 2 undef] := by
  obtain ⟨l⟩ := vs
  match l, h with
  | [a, b, c], _ => rfl

theorem repl_ctr (s old new : List UInt8) (hs : s.length ≤ 1048576) (h1 : 1 ≤ old.length) (hn : new.length ≤ 1048576) (hg3 : globSome 3 = true := by rfl) :
    Ctr Tryd.prog 109 [.s s, .s old, .s new] (.s (Lib.replaceAll s old new)) := by
  intro w S vs hv hg hn' hr
  have h0 := hr 0 (by simp)
  have h1' := hr 1 (by simp)
  have h2 := hr 2 (by simp)
  rw [three_of hn']
  generalize vs.getD 0 undef = v0 at *
  generalize vs.getD 1 undef = v1 at *
  generalize vs.getD 2 undef = v2 at *
  cases h0
  cases h1'
  cases h2
  obtain ⟨m, _, hm⟩ := hg.big 3 hg3
  have hc := Lib.countB_mul_le ⟨old.toArray⟩ (by simpa [ByteArray.size] using h1) s.length ⟨s.toArray⟩ (by simp [ByteArray.size])
  have e1 : (⟨s.toArray⟩ : ByteArray).size = s.length := by simp [ByteArray.size]
  have e2 : (⟨old.toArray⟩ : ByteArray).size = old.length := by simp [ByteArray.size]
  have e3 : (⟨new.toArray⟩ : ByteArray).size = new.length := by simp [ByteArray.size]
  rw [e1, e2] at hc
  refine (Tryd.strings_ReplaceAll ⟨s.toArray⟩ ⟨old.toArray⟩ ⟨new.toArray⟩ m w (by rw [e1]; omega) hm (by rw [e2]; exact h1) ?_).mono ?_
  · rw [e1, e3]
    have q1 : Lib.countB ⟨s.toArray⟩ ⟨old.toArray⟩ ≤ 1048576 := by
      have : Lib.countB ⟨s.toArray⟩ ⟨old.toArray⟩ * 1 ≤ Lib.countB ⟨s.toArray⟩ ⟨old.toArray⟩ * old.length := Nat.mul_le_mul_left _ h1
      omega
    have q2 : Lib.countB ⟨s.toArray⟩ ⟨old.toArray⟩ * new.length ≤ 1048576 * 1048576 := Nat.mul_le_mul q1 hn
    omega
  · rintro e w' ⟨rfl, hb⟩
    exact ⟨_, S, rfl, .s _ _, hist_below hv hg hb⟩

theorem copyU (b : Nat) (w : World) (h0 : w.cell? ⟨b, 0, none⟩ = some (.pointer (some ⟨b, 0, none⟩))) :
    Calls Tryd.prog 108 #[.pointer (some ⟨b, 0, none⟩)] w fun e w' => e = .returned (.tuple #[]) ∧ w' = w :=
  Any.Builder_copyCheck_used (P := Tryd.prog) (ρ := Tryd.lays156_ren) { Tryd.lays156 with } Tryd.Builder_Extra_156.toX72 b w h0

theorem copyF (b : Nat) (w : World) (h0 : w.cell? ⟨b, 0, none⟩ = some (.pointer none)) (hs : w.shape? b = some (91, 2)) (hf : w.frozen? ⟨b, 0, none⟩ = false) :
    Calls Tryd.prog 108 #[.pointer (some ⟨b, 0, none⟩)] w fun e w' => e = .returned (.tuple #[]) ∧ w' = w.setCell ⟨b, 0, none⟩ (.pointer (some ⟨b, 0, none⟩)) :=
  Any.Builder_copyCheck_fresh (P := Tryd.prog) (ρ := Tryd.lays156_ren) { Tryd.lays156 with } Tryd.Builder_Extra_156.toX72 b w h0 hs hf

theorem copy_ctr (k : Nat) (d : D) (lo : Ow) : CtrO Tryd.prog 108 [.pv k 0] ((k, .bld 91 d) :: lo) (.tu []) ((k, .var [.pv k 0, d]) :: lo) :=
  copy_of copyU copyF

/-- Join's answer, in plain words. -/
def joinL (sep : List UInt8) : List (List UInt8) → List UInt8
  | [] => []
  | x :: xs => x ++ (xs.map fun y => sep ++ y).flatten

end Go.Proofs.YteidmimpkipcfaaDoor.Flow
