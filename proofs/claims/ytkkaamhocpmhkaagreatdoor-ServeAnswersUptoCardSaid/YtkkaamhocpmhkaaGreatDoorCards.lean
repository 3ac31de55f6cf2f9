/-
  DERIVED. GIVEN WITH THE SEED: THE CARDS: each row of YtkkaamhocpmhkaaGreatDoorRows.lean that lists a variable, with what it lists TIED to the program's text (the seventh form; the later family's looks); each row that meets fmt, with fmt's text TOLD by the authors' own Lean function (tested against real Go, not proved from fmt's source: count such statements apart). THE CARD IS WHAT COUNTS. Prove the row's statement (the work); the ties are given (YtkkaamhocpmhkaaGreatDoorTie.lean); close each card by the builder's one call (the guide's Derived/Test/ToyasCard.lean, 'card_holds'). Laid BY PROGRAM, IN A SANDBOX (cutbox-door.mjs). By AI agents, Wed Nov 11 2026. No macro, syntax, notation, axiom, sorry.
-/
import Derived.Test.YtkkaamhocpmhkaaGreatDoorRows
import GoSem.ClaimSeven
namespace Go.Proofs.YtkkaamhocpmhkaaGreatDoor
namespace Rows

/-- THE TIED CARD OF 'portolanlaw21.JoinAttrs'. -/
def joinAttrsCard : Claim7 := { stood := { row := joinAttrsRow, standIns := [], harness := (true, "0e00d2cf078cc8a8a21f433cb82b373a311051d4b00ba4e6b8aaac0a00175fae"), looks := false }, kinds := [], alts := [], laidByText := true, laidKinds := [.data, .data, .data, .data, .pinned], laidTests := true, laidLooks := .later }
def JoinAttrsCardSaid : Prop := Claim7.holds Tryz.pinned (.plain (OpenSpec.ofChange joinAttrsSpec)) joinAttrsCard

/-- THE TIED CARD OF 'portolanlaw21.JoinOvers'. -/
def joinOversCard : Claim7 := { stood := { row := joinOversRow, standIns := [], harness := (true, "0e00d2cf078cc8a8a21f433cb82b373a311051d4b00ba4e6b8aaac0a00175fae"), looks := false }, kinds := [], alts := [], laidByText := true, laidKinds := [.data, .data, .data, .data, .pinned], laidTests := true, laidLooks := .later }
def JoinOversCardSaid : Prop := Claim7.holds Tryz.pinned (.plain (OpenSpec.ofChange joinOversSpec)) joinOversCard

/-- THE TIED CARD OF 'portolanlaw21.JoinNews'. -/
def joinNewsCard : Claim7 := { stood := { row := joinNewsRow, standIns := [], harness := (true, "0e00d2cf078cc8a8a21f433cb82b373a311051d4b00ba4e6b8aaac0a00175fae"), looks := false }, kinds := [], alts := [], laidByText := true, laidKinds := [.data, .data, .data, .data, .pinned], laidTests := true, laidLooks := .later }
def JoinNewsCardSaid : Prop := Claim7.holds Tryz.pinned (.plain (OpenSpec.ofChange joinNewsSpec)) joinNewsCard

/-- THE TIED CARD OF 'portolanlaw35.ServeAnswers'. -/
def serveAnswersCard : Claim7 := { stood := { row := serveAnswersRow, standIns := [], harness := (true, "0e00d2cf078cc8a8a21f433cb82b373a311051d4b00ba4e6b8aaac0a00175fae"), looks := false }, kinds := [], alts := [], laidByText := true, laidKinds := [.data, .data, .data, .data, .pinned], laidTests := true, laidLooks := .later }
def ServeAnswersCardSaid : Prop := Claim7.holds Tryz.pinned (.plain (OpenSpec.ofChange serveAnswersSpec)) serveAnswersCard

/-- THE SECOND FORM's CARD OF 'portolanlaw21.JoinAttrs'. -/
def joinAttrsUptoCard : Claim7 := { stood := { row := joinAttrsUptoRow, standIns := [], harness := (true, "0e00d2cf078cc8a8a21f433cb82b373a311051d4b00ba4e6b8aaac0a00175fae"), looks := false }, kinds := [], alts := [], laidByText := true, laidKinds := [.data, .data, .data, .data, .pinned], laidTests := true, laidLooks := .later }
def JoinAttrsUptoCardSaid : Prop := Claim7.holds Tryz.pinned (.plain (OpenSpec.upto joinAttrsSpec)) joinAttrsUptoCard

/-- THE SECOND FORM's CARD OF 'portolanlaw21.JoinOvers'. -/
def joinOversUptoCard : Claim7 := { stood := { row := joinOversUptoRow, standIns := [], harness := (true, "0e00d2cf078cc8a8a21f433cb82b373a311051d4b00ba4e6b8aaac0a00175fae"), looks := false }, kinds := [], alts := [], laidByText := true, laidKinds := [.data, .data, .data, .data, .pinned], laidTests := true, laidLooks := .later }
def JoinOversUptoCardSaid : Prop := Claim7.holds Tryz.pinned (.plain (OpenSpec.upto joinOversSpec)) joinOversUptoCard

/-- THE SECOND FORM's CARD OF 'portolanlaw21.JoinNews'. -/
def joinNewsUptoCard : Claim7 := { stood := { row := joinNewsUptoRow, standIns := [], harness := (true, "0e00d2cf078cc8a8a21f433cb82b373a311051d4b00ba4e6b8aaac0a00175fae"), looks := false }, kinds := [], alts := [], laidByText := true, laidKinds := [.data, .data, .data, .data, .pinned], laidTests := true, laidLooks := .later }
def JoinNewsUptoCardSaid : Prop := Claim7.holds Tryz.pinned (.plain (OpenSpec.upto joinNewsSpec)) joinNewsUptoCard

/-- THE SECOND FORM's CARD OF 'portolanlaw35.ServeAnswers'. -/
def serveAnswersUptoCard : Claim7 := { stood := { row := serveAnswersUptoRow, standIns := [], harness := (true, "0e00d2cf078cc8a8a21f433cb82b373a311051d4b00ba4e6b8aaac0a00175fae"), looks := false }, kinds := [], alts := [], laidByText := true, laidKinds := [.data, .data, .data, .data, .pinned], laidTests := true, laidLooks := .later }
def ServeAnswersUptoCardSaid : Prop := Claim7.holds Tryz.pinned (.plain (OpenSpec.upto serveAnswersSpec)) serveAnswersUptoCard
end Rows
end Go.Proofs.YtkkaamhocpmhkaaGreatDoor
