/- DEC: a decimal among a row's arguments. -/
import Derived.Test.YtenkmfahcmahkaaDoorDD0
import Derived.Test.YtenkmfahcmahkaaDoorDFlowR
namespace Go.Proofs.YtenkmfahcmahkaaDoor.Flow
open Go

section
variable {H : Type} {enc : TypeId × Value → H} {W : World}
set_option maxRecDepth 100000 in
theorem tells_dec : Tells enc W 38 3 (fun d : DataW H => catG [fun d => [.b (boolOf d)], fun d => [.s (strOf d)], fun d => [.i .i64 (intOf d)]] (kids d)) :=
  tells_struct Tryd.underlying38 rfl (by kernel_rfl) (.cons _ _ 0 1 3 _ _ rfl (by kernel_rfl) (tells_bool Tryd.underlying4) (.cons _ _ 1 1 3 _ _ rfl (by kernel_rfl) (tells_str Tryd.underlying9) (.cons _ _ 2 1 3 _ _ rfl (by kernel_rfl) (tells_int Tryd.underlying3) (.nil 3))))

set_option maxRecDepth 100000 in
theorem arg_dec {base : Nat} {v : Value} {d : DataW H} {ps : List MemPlace} (hv : Value.okWide Tryd.prog W .any base 38 v) (h : DataW.Trod enc Tryd.prog W 0 (fun _ => true) true 38 v d ps) :
    ∃ neg s e, Rel (allOf W) W noRho (dcD neg s e) v := by
  have h1 := tells_dec (H := H) (enc := enc) (W := W)
  have h2 := arg_struct (enc := enc) Tryd.underlying38 h1 hv h
  exact ⟨_, _, _, h2⟩
end

end Go.Proofs.YtenkmfahcmahkaaDoor.Flow
