/-
  DERIVED. GIVEN WITH THE SEED: THE CARDS: each row of YtbegohehjkjnmaaGreatDoorRows.lean that lists a variable, with what it lists TIED to the program's text (the seventh form; the later family's looks); each row that meets fmt, with fmt's text TOLD by the authors' own Lean function (tested against real Go, not proved from fmt's source: count such statements apart). THE CARD IS WHAT COUNTS. Prove the row's statement (the work); the ties are given (YtbegohehjkjnmaaGreatDoorTie.lean); close each card by the builder's one call (the guide's Derived/Test/ToyasCard.lean, 'card_holds'). Laid BY PROGRAM, IN A SANDBOX (cutbox-door.mjs). By AI agents, Wed Nov 11 2026. No macro, syntax, notation, axiom, sorry.
-/
import Derived.Test.YtbegohehjkjnmaaGreatDoorRows
import GoSem.ClaimSeven
namespace Go.Proofs.YtbegohehjkjnmaaGreatDoor
namespace Rows

/-- THE TIED CARD OF 'portolanlaw17.JsonTexts'. -/
def jsonTextsCard : Claim7 := { stood := { row := jsonTextsRow, standIns := [], harness := (true, "993e1701bd25e10c5bf1de8cf0bef6ce54ca2359cc571582868b78755c941b18"), looks := true }, kinds := [], alts := [], laidByText := true, laidKinds := [.data, .data, .data, .data, .pinned], laidTests := true, laidLooks := .later }
def JsonTextsCardSaid : Prop := Claim7.holds Tryz.pinned (.plain (OpenSpec.ofChange jsonTextsSpec)) jsonTextsCard

/-- THE SECOND FORM's CARD OF 'portolanlaw17.JsonTexts'. -/
def jsonTextsUptoCard : Claim7 := { stood := { row := jsonTextsUptoRow, standIns := [], harness := (true, "993e1701bd25e10c5bf1de8cf0bef6ce54ca2359cc571582868b78755c941b18"), looks := true }, kinds := [], alts := [], laidByText := true, laidKinds := [.data, .data, .data, .data, .pinned], laidTests := true, laidLooks := .later }
def JsonTextsUptoCardSaid : Prop := Claim7.holds Tryz.pinned (.plain (OpenSpec.upto jsonTextsSpec)) jsonTextsUptoCard
end Rows
end Go.Proofs.YtbegohehjkjnmaaGreatDoor
