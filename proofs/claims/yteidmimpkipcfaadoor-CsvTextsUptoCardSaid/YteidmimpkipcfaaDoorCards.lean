/-
  DERIVED. GIVEN WITH THE SEED: THE CARDS: each row of YteidmimpkipcfaaDoorRows.lean that lists a variable, with what it lists TIED to the program's text (the seventh form; the later family's looks); each row that meets fmt, with fmt's text TOLD by the authors' own Lean function (tested against real Go, not proved from fmt's source: count such statements apart). THE CARD IS WHAT COUNTS. Prove the row's statement (the work); the ties are given (YteidmimpkipcfaaDoorTie.lean); close each card by the builder's one call (the guide's Derived/Test/ToyasCard.lean, 'card_holds'). Laid BY PROGRAM, IN A SANDBOX (cutbox-door.mjs). By AI agents, Wed Nov 11 2026. No macro, syntax, notation, axiom, sorry.
-/
import Derived.Test.YteidmimpkipcfaaDoorRows
import GoSem.ClaimSeven
namespace Go.Proofs.YteidmimpkipcfaaDoor
namespace Rows

/-- THE TIED CARD OF 'portolanlaw19.FloatTexts'. -/
def floatTextsCard : Claim7 := { stood := { row := floatTextsRow, standIns := [], harness := (true, "6c8df4fecdbaca562e66e152722de4c05d504a0ea6d95ee0da0cdfee21c2e548"), looks := false }, kinds := [], alts := [], laidByText := true, laidKinds := [.data, .data, .data, .data, .pinned], laidTests := true, laidLooks := .later }
def FloatTextsCardSaid : Prop := Claim7.holds Tryd.pinned (.plain (OpenSpec.ofChange floatTextsSpec)) floatTextsCard

/-- THE TIED CARD OF 'portolanlaw20.TypedOf'. -/
def typedOfCard : Claim7 := { stood := { row := typedOfRow, standIns := [], harness := (true, "6c8df4fecdbaca562e66e152722de4c05d504a0ea6d95ee0da0cdfee21c2e548"), looks := false }, kinds := [], alts := [], laidByText := true, laidKinds := [.data, .pinned], laidTests := true, laidLooks := .later }
def TypedOfCardSaid : Prop := Claim7.holds Tryd.pinned (.plain (OpenSpec.ofChange typedOfSpec)) typedOfCard

/-- THE TIED CARD OF 'portolanlaw20.TypedMeets'. -/
def typedMeetsCard : Claim7 := { stood := { row := typedMeetsRow, standIns := [], harness := (true, "6c8df4fecdbaca562e66e152722de4c05d504a0ea6d95ee0da0cdfee21c2e548"), looks := false }, kinds := [], alts := [], laidByText := true, laidKinds := [.data, .data, .data, .data, .pinned], laidTests := true, laidLooks := .later }
def TypedMeetsCardSaid : Prop := Claim7.holds Tryd.pinned (.plain (OpenSpec.ofChange typedMeetsSpec)) typedMeetsCard

/-- THE TIED CARD OF 'portolanlaw18.CsvTexts'. -/
def csvTextsCard : Claim7 := { stood := { row := csvTextsRow, standIns := [], harness := (true, "6c8df4fecdbaca562e66e152722de4c05d504a0ea6d95ee0da0cdfee21c2e548"), looks := false }, kinds := [], alts := [], laidByText := true, laidKinds := [.data, .pinned], laidTests := true, laidLooks := .later }
def CsvTextsCardSaid : Prop := Claim7.holds Tryd.pinned (.plain (OpenSpec.ofChange csvTextsSpec)) csvTextsCard

/-- THE TIED CARD OF 'portolanlaw39.ReportPlaces'. -/
def reportPlacesCard : Claim7 := { stood := { row := reportPlacesRow, standIns := [], harness := (true, "6c8df4fecdbaca562e66e152722de4c05d504a0ea6d95ee0da0cdfee21c2e548"), looks := false }, kinds := [], alts := [], laidByText := true, laidKinds := [.data, .data, .data, .data, .pinned], laidTests := true, laidLooks := .later }
def ReportPlacesCardSaid : Prop := Claim7.holds Tryd.pinned (.plain (OpenSpec.ofChange reportPlacesSpec)) reportPlacesCard

/-- THE SECOND FORM's CARD OF 'portolanlaw19.FloatTexts'. -/
def floatTextsUptoCard : Claim7 := { stood := { row := floatTextsUptoRow, standIns := [], harness := (true, "6c8df4fecdbaca562e66e152722de4c05d504a0ea6d95ee0da0cdfee21c2e548"), looks := false }, kinds := [], alts := [], laidByText := true, laidKinds := [.data, .data, .data, .data, .pinned], laidTests := true, laidLooks := .later }
def FloatTextsUptoCardSaid : Prop := Claim7.holds Tryd.pinned (.plain (OpenSpec.upto floatTextsSpec)) floatTextsUptoCard

/-- THE SECOND FORM's CARD OF 'portolanlaw20.TypedOf'. -/
def typedOfUptoCard : Claim7 := { stood := { row := typedOfUptoRow, standIns := [], harness := (true, "6c8df4fecdbaca562e66e152722de4c05d504a0ea6d95ee0da0cdfee21c2e548"), looks := false }, kinds := [], alts := [], laidByText := true, laidKinds := [.data, .pinned], laidTests := true, laidLooks := .later }
def TypedOfUptoCardSaid : Prop := Claim7.holds Tryd.pinned (.plain (OpenSpec.upto typedOfSpec)) typedOfUptoCard

/-- THE SECOND FORM's CARD OF 'portolanlaw20.TypedMeets'. -/
def typedMeetsUptoCard : Claim7 := { stood := { row := typedMeetsUptoRow, standIns := [], harness := (true, "6c8df4fecdbaca562e66e152722de4c05d504a0ea6d95ee0da0cdfee21c2e548"), looks := false }, kinds := [], alts := [], laidByText := true, laidKinds := [.data, .data, .data, .data, .pinned], laidTests := true, laidLooks := .later }
def TypedMeetsUptoCardSaid : Prop := Claim7.holds Tryd.pinned (.plain (OpenSpec.upto typedMeetsSpec)) typedMeetsUptoCard

/-- THE SECOND FORM's CARD OF 'portolanlaw18.CsvTexts'. -/
def csvTextsUptoCard : Claim7 := { stood := { row := csvTextsUptoRow, standIns := [], harness := (true, "6c8df4fecdbaca562e66e152722de4c05d504a0ea6d95ee0da0cdfee21c2e548"), looks := false }, kinds := [], alts := [], laidByText := true, laidKinds := [.data, .pinned], laidTests := true, laidLooks := .later }
def CsvTextsUptoCardSaid : Prop := Claim7.holds Tryd.pinned (.plain (OpenSpec.upto csvTextsSpec)) csvTextsUptoCard

/-- THE SECOND FORM's CARD OF 'portolanlaw39.ReportPlaces'. -/
def reportPlacesUptoCard : Claim7 := { stood := { row := reportPlacesUptoRow, standIns := [], harness := (true, "6c8df4fecdbaca562e66e152722de4c05d504a0ea6d95ee0da0cdfee21c2e548"), looks := false }, kinds := [], alts := [], laidByText := true, laidKinds := [.data, .data, .data, .data, .pinned], laidTests := true, laidLooks := .later }
def ReportPlacesUptoCardSaid : Prop := Claim7.holds Tryd.pinned (.plain (OpenSpec.upto reportPlacesSpec)) reportPlacesUptoCard
end Rows
end Go.Proofs.YteidmimpkipcfaaDoor
