/-
  DERIVED. GIVEN WITH THE SEED: THE CARDS: each row of YtghdgjabpdfaoaaDoorRows.lean that lists a variable, with what it lists TIED to the program's text (the seventh form; the later family's looks); each row that meets fmt, with fmt's text TOLD by the authors' own Lean function (tested against real Go, not proved from fmt's source: count such statements apart). THE CARD IS WHAT COUNTS. Prove the row's statement (the work); the ties are given (YtghdgjabpdfaoaaDoorTie.lean); close each card by the builder's one call (the guide's Derived/Test/ToyasCard.lean, 'card_holds'). Laid BY PROGRAM, IN A SANDBOX (cutbox-door.mjs). By AI agents, Wed Nov 11 2026. No macro, syntax, notation, axiom, sorry.
-/
import Derived.Test.YtghdgjabpdfaoaaDoorRows
import GoSem.ClaimSeven
namespace Go.Proofs.YtghdgjabpdfaoaaDoor
namespace Rows

/-- THE TIED CARD OF 'portolanlaw35.ServeRoutes'. -/
def serveRoutesCard : Claim7 := { stood := { row := serveRoutesRow, standIns := [], harness := (true, "24e0174bfc86cdfd107de9a1301ebbd474efd59d19aedd0d79d7f7994b612837"), looks := false }, kinds := [], alts := [], laidByText := true, laidKinds := [.data, .data, .data, .data, .pinned], laidTests := true, laidLooks := .later }
def ServeRoutesCardSaid : Prop := Claim7.holds Tryd.pinned (.plain (OpenSpec.ofChange serveRoutesSpec)) serveRoutesCard

/-- THE TIED CARD OF 'portolanlaw33.ReqWords'. -/
def reqWordsCard : Claim7 := { stood := { row := reqWordsRow, standIns := [], harness := (true, "24e0174bfc86cdfd107de9a1301ebbd474efd59d19aedd0d79d7f7994b612837"), looks := false }, kinds := [], alts := [], laidByText := true, laidKinds := [.data, .pinned], laidTests := true, laidLooks := .later }
def ReqWordsCardSaid : Prop := Claim7.holds Tryd.pinned (.plain (OpenSpec.ofChange reqWordsSpec)) reqWordsCard

/-- THE TIED CARD OF 'portolanlaw33.ReqParses'. -/
def reqParsesCard : Claim7 := { stood := { row := reqParsesRow, standIns := [], harness := (true, "24e0174bfc86cdfd107de9a1301ebbd474efd59d19aedd0d79d7f7994b612837"), looks := false }, kinds := [], alts := [], laidByText := true, laidKinds := [.data, .pinned], laidTests := true, laidLooks := .later }
def ReqParsesCardSaid : Prop := Claim7.holds Tryd.pinned (.plain (OpenSpec.ofChange reqParsesSpec)) reqParsesCard

/-- THE TIED CARD OF 'portolanlaw33.ReqOthers'. -/
def reqOthersCard : Claim7 := { stood := { row := reqOthersRow, standIns := [], harness := (true, "24e0174bfc86cdfd107de9a1301ebbd474efd59d19aedd0d79d7f7994b612837"), looks := false }, kinds := [], alts := [], laidByText := true, laidKinds := [.data, .pinned], laidTests := true, laidLooks := .later }
def ReqOthersCardSaid : Prop := Claim7.holds Tryd.pinned (.plain (OpenSpec.ofChange reqOthersSpec)) reqOthersCard

/-- THE SECOND FORM's CARD OF 'portolanlaw35.ServeRoutes'. -/
def serveRoutesUptoCard : Claim7 := { stood := { row := serveRoutesUptoRow, standIns := [], harness := (true, "24e0174bfc86cdfd107de9a1301ebbd474efd59d19aedd0d79d7f7994b612837"), looks := false }, kinds := [], alts := [], laidByText := true, laidKinds := [.data, .data, .data, .data, .pinned], laidTests := true, laidLooks := .later }
def ServeRoutesUptoCardSaid : Prop := Claim7.holds Tryd.pinned (.plain (OpenSpec.upto serveRoutesSpec)) serveRoutesUptoCard

/-- THE SECOND FORM's CARD OF 'portolanlaw33.ReqWords'. -/
def reqWordsUptoCard : Claim7 := { stood := { row := reqWordsUptoRow, standIns := [], harness := (true, "24e0174bfc86cdfd107de9a1301ebbd474efd59d19aedd0d79d7f7994b612837"), looks := false }, kinds := [], alts := [], laidByText := true, laidKinds := [.data, .pinned], laidTests := true, laidLooks := .later }
def ReqWordsUptoCardSaid : Prop := Claim7.holds Tryd.pinned (.plain (OpenSpec.upto reqWordsSpec)) reqWordsUptoCard

/-- THE SECOND FORM's CARD OF 'portolanlaw33.ReqParses'. -/
def reqParsesUptoCard : Claim7 := { stood := { row := reqParsesUptoRow, standIns := [], harness := (true, "24e0174bfc86cdfd107de9a1301ebbd474efd59d19aedd0d79d7f7994b612837"), looks := false }, kinds := [], alts := [], laidByText := true, laidKinds := [.data, .pinned], laidTests := true, laidLooks := .later }
def ReqParsesUptoCardSaid : Prop := Claim7.holds Tryd.pinned (.plain (OpenSpec.upto reqParsesSpec)) reqParsesUptoCard

/-- THE SECOND FORM's CARD OF 'portolanlaw33.ReqOthers'. -/
def reqOthersUptoCard : Claim7 := { stood := { row := reqOthersUptoRow, standIns := [], harness := (true, "24e0174bfc86cdfd107de9a1301ebbd474efd59d19aedd0d79d7f7994b612837"), looks := false }, kinds := [], alts := [], laidByText := true, laidKinds := [.data, .pinned], laidTests := true, laidLooks := .later }
def ReqOthersUptoCardSaid : Prop := Claim7.holds Tryd.pinned (.plain (OpenSpec.upto reqOthersSpec)) reqOthersUptoCard
end Rows
end Go.Proofs.YtghdgjabpdfaoaaDoor
