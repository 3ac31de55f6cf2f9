/-
  DERIVED. GIVEN WITH THE SEED: THE CARDS: each row of YtcajofhafpkbdaaGreatDoorRows.lean that lists a variable, with what it lists TIED to the program's text (the seventh form; the later family's looks); each row that meets fmt, with fmt's text TOLD by the authors' own Lean function (tested against real Go, not proved from fmt's source: count such statements apart). THE CARD IS WHAT COUNTS. Prove the row's statement (the work); the ties are given (YtcajofhafpkbdaaGreatDoorTie.lean); close each card by the builder's one call (the guide's Derived/Test/ToyasCard.lean, 'card_holds'). Laid BY PROGRAM, IN A SANDBOX (cutbox-door.mjs). By AI agents, Wed Nov 11 2026. No macro, syntax, notation, axiom, sorry.
-/
import Derived.Test.YtcajofhafpkbdaaGreatDoorRows
import GoSem.ClaimSeven
namespace Go.Proofs.YtcajofhafpkbdaaGreatDoor
namespace Rows

/-- THE TIED CARD OF 'portolanlaw30.ConfFinds'. -/
def confFindsCard : Claim7 := { stood := { row := confFindsRow, standIns := [], harness := (true, "ed2dfd92df9193d4eb6cda1bb2ceeef2ebb28a95b1fddf6151f060488ea0ed33"), looks := true }, kinds := [], alts := [], laidByText := true, laidKinds := [.data, .data, .data, .data, .pinned], laidTests := true, laidLooks := .later }
def ConfFindsCardSaid : Prop := Claim7.holds Tryz.pinned (.plain (OpenSpec.ofChange confFindsSpec)) confFindsCard

/-- THE TIED CARD OF 'portolanlaw30.ConfParses'. -/
def confParsesCard : Claim7 := { stood := { row := confParsesRow, standIns := [], harness := (true, "ed2dfd92df9193d4eb6cda1bb2ceeef2ebb28a95b1fddf6151f060488ea0ed33"), looks := true }, kinds := [], alts := [], laidByText := true, laidKinds := [.data, .data, .data, .data, .pinned], laidTests := true, laidLooks := .later }
def ConfParsesCardSaid : Prop := Claim7.holds Tryz.pinned (.plain (OpenSpec.ofChange confParsesSpec)) confParsesCard

/-- THE TIED CARD OF 'portolanlaw30.ConfTexts'. -/
def confTextsCard : Claim7 := { stood := { row := confTextsRow, standIns := [], harness := (true, "ed2dfd92df9193d4eb6cda1bb2ceeef2ebb28a95b1fddf6151f060488ea0ed33"), looks := true }, kinds := [], alts := [], laidByText := true, laidKinds := [.data, .data, .data, .data, .pinned], laidTests := true, laidLooks := .later }
def ConfTextsCardSaid : Prop := Claim7.holds Tryz.pinned (.plain (OpenSpec.ofChange confTextsSpec)) confTextsCard

/-- THE SECOND FORM's CARD OF 'portolanlaw30.ConfFinds'. -/
def confFindsUptoCard : Claim7 := { stood := { row := confFindsUptoRow, standIns := [], harness := (true, "ed2dfd92df9193d4eb6cda1bb2ceeef2ebb28a95b1fddf6151f060488ea0ed33"), looks := true }, kinds := [], alts := [], laidByText := true, laidKinds := [.data, .data, .data, .data, .pinned], laidTests := true, laidLooks := .later }
def ConfFindsUptoCardSaid : Prop := Claim7.holds Tryz.pinned (.plain (OpenSpec.upto confFindsSpec)) confFindsUptoCard

/-- THE SECOND FORM's CARD OF 'portolanlaw30.ConfParses'. -/
def confParsesUptoCard : Claim7 := { stood := { row := confParsesUptoRow, standIns := [], harness := (true, "ed2dfd92df9193d4eb6cda1bb2ceeef2ebb28a95b1fddf6151f060488ea0ed33"), looks := true }, kinds := [], alts := [], laidByText := true, laidKinds := [.data, .data, .data, .data, .pinned], laidTests := true, laidLooks := .later }
def ConfParsesUptoCardSaid : Prop := Claim7.holds Tryz.pinned (.plain (OpenSpec.upto confParsesSpec)) confParsesUptoCard

/-- THE SECOND FORM's CARD OF 'portolanlaw30.ConfTexts'. -/
def confTextsUptoCard : Claim7 := { stood := { row := confTextsUptoRow, standIns := [], harness := (true, "ed2dfd92df9193d4eb6cda1bb2ceeef2ebb28a95b1fddf6151f060488ea0ed33"), looks := true }, kinds := [], alts := [], laidByText := true, laidKinds := [.data, .data, .data, .data, .pinned], laidTests := true, laidLooks := .later }
def ConfTextsUptoCardSaid : Prop := Claim7.holds Tryz.pinned (.plain (OpenSpec.upto confTextsSpec)) confTextsUptoCard
end Rows
end Go.Proofs.YtcajofhafpkbdaaGreatDoor
