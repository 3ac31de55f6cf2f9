/-
  DERIVED. GIVEN WITH THE SEED: THE CARDS: each row of YtinjdlckhmkmaaaDoorRows.lean that lists a variable, with what it lists TIED to the program's text (the seventh form; the later family's looks); each row that meets fmt, with fmt's text TOLD by the authors' own Lean function (tested against real Go, not proved from fmt's source: count such statements apart). THE CARD IS WHAT COUNTS. Prove the row's statement (the work); the ties are given (YtinjdlckhmkmaaaDoorTie.lean); close each card by the builder's one call (the guide's Derived/Test/ToyasCard.lean, 'card_holds'). Laid BY PROGRAM, IN A SANDBOX (cutbox-door.mjs). By AI agents, Wed Nov 11 2026. No macro, syntax, notation, axiom, sorry.
-/
import Derived.Test.YtinjdlckhmkmaaaDoorRows
import GoSem.ClaimSeven
namespace Go.Proofs.YtinjdlckhmkmaaaDoor
namespace Rows

/-- THE TIED CARD OF 'portolanlaw39.ReportPlaces'. -/
def reportPlacesCard : Claim7 := { stood := { row := reportPlacesRow, standIns := [], harness := (true, "d99c19df6d7105a5db41ce540c3b671e56071b6e1b3b77af3785920bc0ef677c"), looks := false }, kinds := [], alts := [], laidByText := true, laidKinds := [.data, .data, .data, .data, .pinned], laidTests := true, laidLooks := .later }
def ReportPlacesCardSaid : Prop := Claim7.holds Tryd.pinned (.plain (OpenSpec.ofChange reportPlacesSpec)) reportPlacesCard

/-- THE TIED CARD OF 'portolanlaw39.ReportAnswers'. -/
def reportAnswersCard : Claim7 := { stood := { row := reportAnswersRow, standIns := [], harness := (true, "d99c19df6d7105a5db41ce540c3b671e56071b6e1b3b77af3785920bc0ef677c"), looks := false }, kinds := [], alts := [], laidByText := true, laidKinds := [.data, .data, .data, .data, .pinned], laidTests := true, laidLooks := .later }
def ReportAnswersCardSaid : Prop := Claim7.holds Tryd.pinned (.plain (OpenSpec.ofChange reportAnswersSpec)) reportAnswersCard

/-- THE TIED CARD OF 'portolanlaw39.ReportLayers'. -/
def reportLayersCard : Claim7 := { stood := { row := reportLayersRow, standIns := [], harness := (true, "d99c19df6d7105a5db41ce540c3b671e56071b6e1b3b77af3785920bc0ef677c"), looks := false }, kinds := [], alts := [], laidByText := true, laidKinds := [.data, .data, .data, .data, .pinned], laidTests := true, laidLooks := .later }
def ReportLayersCardSaid : Prop := Claim7.holds Tryd.pinned (.plain (OpenSpec.ofChange reportLayersSpec)) reportLayersCard

/-- THE SECOND FORM's CARD OF 'portolanlaw39.ReportPlaces'. -/
def reportPlacesUptoCard : Claim7 := { stood := { row := reportPlacesUptoRow, standIns := [], harness := (true, "d99c19df6d7105a5db41ce540c3b671e56071b6e1b3b77af3785920bc0ef677c"), looks := false }, kinds := [], alts := [], laidByText := true, laidKinds := [.data, .data, .data, .data, .pinned], laidTests := true, laidLooks := .later }
def ReportPlacesUptoCardSaid : Prop := Claim7.holds Tryd.pinned (.plain (OpenSpec.upto reportPlacesSpec)) reportPlacesUptoCard

/-- THE SECOND FORM's CARD OF 'portolanlaw39.ReportAnswers'. -/
def reportAnswersUptoCard : Claim7 := { stood := { row := reportAnswersUptoRow, standIns := [], harness := (true, "d99c19df6d7105a5db41ce540c3b671e56071b6e1b3b77af3785920bc0ef677c"), looks := false }, kinds := [], alts := [], laidByText := true, laidKinds := [.data, .data, .data, .data, .pinned], laidTests := true, laidLooks := .later }
def ReportAnswersUptoCardSaid : Prop := Claim7.holds Tryd.pinned (.plain (OpenSpec.upto reportAnswersSpec)) reportAnswersUptoCard

/-- THE SECOND FORM's CARD OF 'portolanlaw39.ReportLayers'. -/
def reportLayersUptoCard : Claim7 := { stood := { row := reportLayersUptoRow, standIns := [], harness := (true, "d99c19df6d7105a5db41ce540c3b671e56071b6e1b3b77af3785920bc0ef677c"), looks := false }, kinds := [], alts := [], laidByText := true, laidKinds := [.data, .data, .data, .data, .pinned], laidTests := true, laidLooks := .later }
def ReportLayersUptoCardSaid : Prop := Claim7.holds Tryd.pinned (.plain (OpenSpec.upto reportLayersSpec)) reportLayersUptoCard
end Rows
end Go.Proofs.YtinjdlckhmkmaaaDoor
