/-
  No cell of these rows narrows 'for every input' (looked for: loops, veiled, ifaces, maps, wideKeys, modest, calm, conditions, laid).
  DERIVED. THE GIVEN ROWS OF THIS SEAT. 3 by the template 'for every input the law returns true; each argument reads behind the call as it read before'; 0 by the template 'total and deterministic' (their statements: YtenkmfahcmahkaaTotals.lean).
  GIVEN WITH THE SEED: the statements are not yours to turn. If you find one false, say at which input.
  Laid BY PROGRAM, IN A SANDBOX (cutbox-rows.mjs): the forced cells as the released guide's own fill.sh prints them over the translation 451363339826cc3c… (all of the seat's roots in one cut). By AI agents, Wed Nov 11 2026. No macro, syntax, notation, axiom, sorry.
-/
import Derived.Test.YtenkmfahcmahkaaChecked
import GoSem.Claim
import GoSem.ClaimJoined
import GoSem.ClaimMapViews
import Derived.JoinedTies
import Derived.KernelRfl
namespace Go.Proofs.Ytenkmfahcmahkaa
/- THE CELL 'sum', in the pinned program and in every row, IS THE sha256 OF THE DUMP (.gsa) THAT YtenkmfahcmahkaaProg.lean LOADS. Nothing in Lean hashes anything: it is a label: what it is worth is what the hold of that sum in a sandbox is worth. -/
noncomputable def Try.pinned : Pinned := { name := "ytenkmfahcmahkaa", sum := "451363339826cc3c7a9e620842d50e0dfc05704ca27aeec6a3cbbaca392056ae", checked := Try.checked }
namespace Rows
def none {H : Type} : Left H := { results := [], args := [] }

/-- 'portolanlaw19.FloatNear': WHATEVER THE INPUT: true; the input reads as it did. -/
def floatNearSpec : ChangeSpec := { name := "floatNear", fn := fun _ => fun
  | [d] => { results := [.lit (.bool true)], args := [d] }
  | _ => none }
def floatNearRow : OpenClaim := { program := "ytenkmfahcmahkaa", sum := "451363339826cc3c7a9e620842d50e0dfc05704ca27aeec6a3cbbaca392056ae", func := "portolan/portolanlaw19.FloatNear", spec := "floatNear", apart := false }
def FloatNearSaid : Prop := floatNearRow.holds Try.pinned (OpenSpec.ofChange floatNearSpec)

/-- ITS FALSE NEIGHBOUR: 'it returns false'. Refute it at one input. -/
def floatNearWrong : ChangeSpec := { name := "floatNear", fn := fun _ => fun
  | [d] => { results := [.lit (.bool false)], args := [d] }
  | _ => none }
def FloatNearWrongFalsely : Prop := floatNearRow.holds Try.pinned (OpenSpec.ofChange floatNearWrong)

/-- 'portolanlaw19.FloatRises': WHATEVER THE INPUT: true; the input reads as it did. -/
def floatRisesSpec : ChangeSpec := { name := "floatRises", fn := fun _ => fun
  | [d1, d2] => { results := [.lit (.bool true)], args := [d1, d2] }
  | _ => none }
def floatRisesRow : OpenClaim := { program := "ytenkmfahcmahkaa", sum := "451363339826cc3c7a9e620842d50e0dfc05704ca27aeec6a3cbbaca392056ae", func := "portolan/portolanlaw19.FloatRises", spec := "floatRises", apart := false }
def FloatRisesSaid : Prop := floatRisesRow.holds Try.pinned (OpenSpec.ofChange floatRisesSpec)

/-- ITS FALSE NEIGHBOUR: 'it returns false'. Refute it at one input. -/
def floatRisesWrong : ChangeSpec := { name := "floatRises", fn := fun _ => fun
  | [d1, d2] => { results := [.lit (.bool false)], args := [d1, d2] }
  | _ => none }
def FloatRisesWrongFalsely : Prop := floatRisesRow.holds Try.pinned (OpenSpec.ofChange floatRisesWrong)

/-- 'portolanlaw19.FloatParts': WHATEVER THE INPUT: true; the input reads as it did. -/
def floatPartsSpec : ChangeSpec := { name := "floatParts", fn := fun _ => fun
  | [d1, d2, d3, d4] => { results := [.lit (.bool true)], args := [d1, d2, d3, d4] }
  | _ => none }
def floatPartsRow : OpenClaim := { program := "ytenkmfahcmahkaa", sum := "451363339826cc3c7a9e620842d50e0dfc05704ca27aeec6a3cbbaca392056ae", func := "portolan/portolanlaw19.FloatParts", spec := "floatParts", apart := false }
def FloatPartsSaid : Prop := floatPartsRow.holds Try.pinned (OpenSpec.ofChange floatPartsSpec)

/-- ITS FALSE NEIGHBOUR: 'it returns false'. Refute it at one input. -/
def floatPartsWrong : ChangeSpec := { name := "floatParts", fn := fun _ => fun
  | [d1, d2, d3, d4] => { results := [.lit (.bool false)], args := [d1, d2, d3, d4] }
  | _ => none }
def FloatPartsWrongFalsely : Prop := floatPartsRow.holds Try.pinned (OpenSpec.ofChange floatPartsWrong)

/- THE SECOND FORM. 'bulk': how many values and letters a reading holds, each counted each time it is reached (what is shared counts as often as it is met; a slice's spare places count too). A statement '..UptoSaid' is the law's where the arguments, and the package variables that the reading takes, are together of bulk at most 1048576: NARROWER than '..Said'. Prove '..Said' where nothing that the law and all that it calls make is longer than what came in: it says more and counts as full. Else prove '..UptoSaid'. A law counts once. -/
mutual
def uptoBulk {H : Type} : DataW H → Nat
  | .lit (.string bytes) => bytes.length + 1
  | .lit _ => 1
  | .nil => 1
  | .ptr d => uptoBulk d + 1
  | .slice elems spare => uptoBulkAll elems + uptoBulkAll spare + 1
  | .agg parts => uptoBulkAll parts + 1
  | .iface _ d => uptoBulk d + 1
  | .map entries => uptoBulkEntries entries + 1
  | .held _ => 1
def uptoBulkAll {H : Type} : List (DataW H) → Nat
  | [] => 0
  | d :: r => uptoBulk d + uptoBulkAll r
def uptoBulkEntries {H : Type} : List (Lit × DataW H) → Nat
  | [] => 0
  | x :: r => uptoBulkEntry x + uptoBulkEntries r
def uptoBulkEntry {H : Type} : Lit × DataW H → Nat
  | (.string bytes, d) => bytes.length + uptoBulk d + 1
  | (_, d) => uptoBulk d + 1
 end
def uptoSmall : (H : Type) → List (DataW H) → Bool := fun _ ds => decide (uptoBulkAll ds ≤ 1048576)
def OpenSpec.upto (s : _root_.Go.ChangeSpec) : _root_.Go.OpenSpec := { _root_.Go.OpenSpec.ofChange s with cond := some uptoSmall }

/-- 'portolanlaw19.FloatNear', WHERE WHAT IT READS IS OF BULK AT MOST 1048576: true; the input reads as it did. -/
def floatNearUptoRow : OpenClaim := { program := "ytenkmfahcmahkaa", sum := "451363339826cc3c7a9e620842d50e0dfc05704ca27aeec6a3cbbaca392056ae", func := "portolan/portolanlaw19.FloatNear", spec := "floatNear", apart := false, narrowed := true }
def FloatNearUptoSaid : Prop := floatNearUptoRow.holds Try.pinned (OpenSpec.upto floatNearSpec)

/-- 'portolanlaw19.FloatRises', WHERE WHAT IT READS IS OF BULK AT MOST 1048576: true; the input reads as it did. -/
def floatRisesUptoRow : OpenClaim := { program := "ytenkmfahcmahkaa", sum := "451363339826cc3c7a9e620842d50e0dfc05704ca27aeec6a3cbbaca392056ae", func := "portolan/portolanlaw19.FloatRises", spec := "floatRises", apart := false, narrowed := true }
def FloatRisesUptoSaid : Prop := floatRisesUptoRow.holds Try.pinned (OpenSpec.upto floatRisesSpec)

/-- 'portolanlaw19.FloatParts', WHERE WHAT IT READS IS OF BULK AT MOST 1048576: true; the input reads as it did. -/
def floatPartsUptoRow : OpenClaim := { program := "ytenkmfahcmahkaa", sum := "451363339826cc3c7a9e620842d50e0dfc05704ca27aeec6a3cbbaca392056ae", func := "portolan/portolanlaw19.FloatParts", spec := "floatParts", apart := false, narrowed := true }
def FloatPartsUptoSaid : Prop := floatPartsUptoRow.holds Try.pinned (OpenSpec.upto floatPartsSpec)

end Rows
end Go.Proofs.Ytenkmfahcmahkaa
