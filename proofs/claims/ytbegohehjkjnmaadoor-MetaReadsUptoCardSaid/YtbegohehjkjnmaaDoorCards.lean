/-
  DERIVED. GIVEN WITH THE SEED: THE CARDS: each row of YtbegohehjkjnmaaDoorRows.lean that lists a variable, with what it lists TIED to the program's text (the seventh form; the later family's looks); each row that meets fmt, with fmt's text TOLD by the authors' own Lean function (tested against real Go, not proved from fmt's source: count such statements apart). THE CARD IS WHAT COUNTS. Prove the row's statement (the work); the ties are given (YtbegohehjkjnmaaDoorTie.lean); close each card by the builder's one call (the guide's Derived/Test/ToyasCard.lean, 'card_holds'). Laid BY PROGRAM, IN A SANDBOX (cutbox-door.mjs). By AI agents, Wed Nov 11 2026. No macro, syntax, notation, axiom, sorry.
-/
import Derived.Test.YtbegohehjkjnmaaDoorRows
import GoSem.ClaimSeven
namespace Go.Proofs.YtbegohehjkjnmaaDoor
namespace Rows

/-- THE TIED CARD OF 'portolanlaw17.JsonParses'. -/
def jsonParsesCard : Claim7 := { stood := { row := jsonParsesRow, standIns := [], harness := (true, "484c80639b1b50912aefeaa75c94e089a15033e00d5a5e12aa25a09b711b22f4"), looks := true }, kinds := [], alts := [], laidByText := true, laidKinds := [.data, .pinned], laidTests := true, laidLooks := .later }
def JsonParsesCardSaid : Prop := Claim7.holds Tryd.pinned (.plain (OpenSpec.ofChange jsonParsesSpec)) jsonParsesCard

/-- THE TIED CARD OF 'portolanlaw17.JsonSames'. -/
def jsonSamesCard : Claim7 := { stood := { row := jsonSamesRow, standIns := [], harness := (true, "484c80639b1b50912aefeaa75c94e089a15033e00d5a5e12aa25a09b711b22f4"), looks := true }, kinds := [], alts := [], laidByText := true, laidKinds := [.data, .pinned], laidTests := true, laidLooks := .later }
def JsonSamesCardSaid : Prop := Claim7.holds Tryd.pinned (.plain (OpenSpec.ofChange jsonSamesSpec)) jsonSamesCard

/-- THE TIED CARD OF 'portolanlaw17.JsonDeep'. -/
def jsonDeepCard : Claim7 := { stood := { row := jsonDeepRow, standIns := [], harness := (true, "484c80639b1b50912aefeaa75c94e089a15033e00d5a5e12aa25a09b711b22f4"), looks := true }, kinds := [], alts := [], laidByText := true, laidKinds := [.data, .pinned], laidTests := true, laidLooks := .later }
def JsonDeepCardSaid : Prop := Claim7.holds Tryd.pinned (.plain (OpenSpec.ofChange jsonDeepSpec)) jsonDeepCard

/-- THE TIED CARD OF 'portolanlaw29.MetaReads'. -/
def metaReadsCard : Claim7 := { stood := { row := metaReadsRow, standIns := [], harness := (true, "484c80639b1b50912aefeaa75c94e089a15033e00d5a5e12aa25a09b711b22f4"), looks := true }, kinds := [], alts := [], laidByText := true, laidKinds := [.data, .pinned], laidTests := true, laidLooks := .later }
def MetaReadsCardSaid : Prop := Claim7.holds Tryd.pinned (.plain (OpenSpec.ofChange metaReadsSpec)) metaReadsCard

/-- THE SECOND FORM's CARD OF 'portolanlaw17.JsonParses'. -/
def jsonParsesUptoCard : Claim7 := { stood := { row := jsonParsesUptoRow, standIns := [], harness := (true, "484c80639b1b50912aefeaa75c94e089a15033e00d5a5e12aa25a09b711b22f4"), looks := true }, kinds := [], alts := [], laidByText := true, laidKinds := [.data, .pinned], laidTests := true, laidLooks := .later }
def JsonParsesUptoCardSaid : Prop := Claim7.holds Tryd.pinned (.plain (OpenSpec.upto jsonParsesSpec)) jsonParsesUptoCard

/-- THE SECOND FORM's CARD OF 'portolanlaw17.JsonSames'. -/
def jsonSamesUptoCard : Claim7 := { stood := { row := jsonSamesUptoRow, standIns := [], harness := (true, "484c80639b1b50912aefeaa75c94e089a15033e00d5a5e12aa25a09b711b22f4"), looks := true }, kinds := [], alts := [], laidByText := true, laidKinds := [.data, .pinned], laidTests := true, laidLooks := .later }
def JsonSamesUptoCardSaid : Prop := Claim7.holds Tryd.pinned (.plain (OpenSpec.upto jsonSamesSpec)) jsonSamesUptoCard

/-- THE SECOND FORM's CARD OF 'portolanlaw17.JsonDeep'. -/
def jsonDeepUptoCard : Claim7 := { stood := { row := jsonDeepUptoRow, standIns := [], harness := (true, "484c80639b1b50912aefeaa75c94e089a15033e00d5a5e12aa25a09b711b22f4"), looks := true }, kinds := [], alts := [], laidByText := true, laidKinds := [.data, .pinned], laidTests := true, laidLooks := .later }
def JsonDeepUptoCardSaid : Prop := Claim7.holds Tryd.pinned (.plain (OpenSpec.upto jsonDeepSpec)) jsonDeepUptoCard

/-- THE SECOND FORM's CARD OF 'portolanlaw29.MetaReads'. -/
def metaReadsUptoCard : Claim7 := { stood := { row := metaReadsUptoRow, standIns := [], harness := (true, "484c80639b1b50912aefeaa75c94e089a15033e00d5a5e12aa25a09b711b22f4"), looks := true }, kinds := [], alts := [], laidByText := true, laidKinds := [.data, .pinned], laidTests := true, laidLooks := .later }
def MetaReadsUptoCardSaid : Prop := Claim7.holds Tryd.pinned (.plain (OpenSpec.upto metaReadsSpec)) metaReadsUptoCard
end Rows
end Go.Proofs.YtbegohehjkjnmaaDoor
