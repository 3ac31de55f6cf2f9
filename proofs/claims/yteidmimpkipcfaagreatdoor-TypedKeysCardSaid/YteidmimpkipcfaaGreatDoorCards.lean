/-
  DERIVED. GIVEN WITH THE SEED: THE CARDS: each row of YteidmimpkipcfaaGreatDoorRows.lean that lists a variable, with what it lists TIED to the program's text (the seventh form; the later family's looks); each row that meets fmt, with fmt's text TOLD by the authors' own Lean function (tested against real Go, not proved from fmt's source: count such statements apart). THE CARD IS WHAT COUNTS. Prove the row's statement (the work); the ties are given (YteidmimpkipcfaaGreatDoorTie.lean); close each card by the builder's one call (the guide's Derived/Test/ToyasCard.lean, 'card_holds'). Laid BY PROGRAM, IN A SANDBOX (cutbox-door.mjs). By AI agents, Wed Nov 11 2026. No macro, syntax, notation, axiom, sorry.
-/
import Derived.Test.YteidmimpkipcfaaGreatDoorRows
import GoSem.ClaimSeven
namespace Go.Proofs.YteidmimpkipcfaaGreatDoor
namespace Rows

/-- THE TIED CARD OF 'portolanlaw20.TypedKeys'. -/
def typedKeysCard : Claim7 := { stood := { row := typedKeysRow, standIns := [], harness := (true, "116f61b5f04d85cc8752ba25f26323e757fbb220ef2a1f581092f4d0304e6448"), looks := false }, kinds := [], alts := [], laidByText := true, laidKinds := [.data, .data, .data, .data, .pinned], laidTests := true, laidLooks := .later }
def TypedKeysCardSaid : Prop := Claim7.holds Tryz.pinned (.plain (OpenSpec.ofChange typedKeysSpec)) typedKeysCard

/-- THE SECOND FORM's CARD OF 'portolanlaw20.TypedKeys'. -/
def typedKeysUptoCard : Claim7 := { stood := { row := typedKeysUptoRow, standIns := [], harness := (true, "116f61b5f04d85cc8752ba25f26323e757fbb220ef2a1f581092f4d0304e6448"), looks := false }, kinds := [], alts := [], laidByText := true, laidKinds := [.data, .data, .data, .data, .pinned], laidTests := true, laidLooks := .later }
def TypedKeysUptoCardSaid : Prop := Claim7.holds Tryz.pinned (.plain (OpenSpec.upto typedKeysSpec)) typedKeysUptoCard
end Rows
end Go.Proofs.YteidmimpkipcfaaGreatDoor
