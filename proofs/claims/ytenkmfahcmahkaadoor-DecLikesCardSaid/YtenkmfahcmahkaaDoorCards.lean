/-
  DERIVED. GIVEN WITH THE SEED: THE CARDS: each row of YtenkmfahcmahkaaDoorRows.lean that lists a variable, with what it lists TIED to the program's text (the seventh form; the later family's looks); each row that meets fmt, with fmt's text TOLD by the authors' own Lean function (tested against real Go, not proved from fmt's source: count such statements apart). THE CARD IS WHAT COUNTS. Prove the row's statement (the work); the ties are given (YtenkmfahcmahkaaDoorTie.lean); close each card by the builder's one call (the guide's Derived/Test/ToyasCard.lean, 'card_holds'). Laid BY PROGRAM, IN A SANDBOX (cutbox-door.mjs). By AI agents, Wed Nov 11 2026. No macro, syntax, notation, axiom, sorry.
-/
import Derived.Test.YtenkmfahcmahkaaDoorRows
import GoSem.ClaimSeven
namespace Go.Proofs.YtenkmfahcmahkaaDoor
namespace Rows

/-- THE TIED CARD OF 'portolanlaw15.UtfValid'. -/
def utfValidCard : Claim7 := { stood := { row := utfValidRow, standIns := [], harness := (true, "7c645baa1e58ab6b4bb197d88709bd9760b286e5929cc3a86c96e33bbd22faff"), looks := false }, kinds := [], alts := [], laidByText := true, laidKinds := [.data, .pinned], laidTests := true, laidLooks := .later }
def UtfValidCardSaid : Prop := Claim7.holds Tryd.pinned (.plain (OpenSpec.ofChange utfValidSpec)) utfValidCard

/-- THE TIED CARD OF 'portolanlaw15.UtfUnquotes'. -/
def utfUnquotesCard : Claim7 := { stood := { row := utfUnquotesRow, standIns := [], harness := (true, "7c645baa1e58ab6b4bb197d88709bd9760b286e5929cc3a86c96e33bbd22faff"), looks := false }, kinds := [], alts := [], laidByText := true, laidKinds := [.data, .pinned], laidTests := true, laidLooks := .later }
def UtfUnquotesCardSaid : Prop := Claim7.holds Tryd.pinned (.plain (OpenSpec.ofChange utfUnquotesSpec)) utfUnquotesCard

/-- THE TIED CARD OF 'portolanlaw15.UtfQuotes'. -/
def utfQuotesCard : Claim7 := { stood := { row := utfQuotesRow, standIns := [], harness := (true, "7c645baa1e58ab6b4bb197d88709bd9760b286e5929cc3a86c96e33bbd22faff"), looks := false }, kinds := [], alts := [], laidByText := true, laidKinds := [.data, .pinned], laidTests := true, laidLooks := .later }
def UtfQuotesCardSaid : Prop := Claim7.holds Tryd.pinned (.plain (OpenSpec.ofChange utfQuotesSpec)) utfQuotesCard

/-- THE TIED CARD OF 'portolanlaw33.ReqWords'. -/
def reqWordsCard : Claim7 := { stood := { row := reqWordsRow, standIns := [], harness := (true, "7c645baa1e58ab6b4bb197d88709bd9760b286e5929cc3a86c96e33bbd22faff"), looks := false }, kinds := [], alts := [], laidByText := true, laidKinds := [.data, .pinned], laidTests := true, laidLooks := .later }
def ReqWordsCardSaid : Prop := Claim7.holds Tryd.pinned (.plain (OpenSpec.ofChange reqWordsSpec)) reqWordsCard

/-- THE TIED CARD OF 'portolanlaw16.DecParses'. -/
def decParsesCard : Claim7 := { stood := { row := decParsesRow, standIns := [], harness := (true, "7c645baa1e58ab6b4bb197d88709bd9760b286e5929cc3a86c96e33bbd22faff"), looks := false }, kinds := [], alts := [], laidByText := true, laidKinds := [.data, .data, .data, .data, .pinned], laidTests := true, laidLooks := .later }
def DecParsesCardSaid : Prop := Claim7.holds Tryd.pinned (.plain (OpenSpec.ofChange decParsesSpec)) decParsesCard

/-- THE TIED CARD OF 'portolanlaw16.DecTexts'. -/
def decTextsCard : Claim7 := { stood := { row := decTextsRow, standIns := [], harness := (true, "7c645baa1e58ab6b4bb197d88709bd9760b286e5929cc3a86c96e33bbd22faff"), looks := false }, kinds := [], alts := [], laidByText := true, laidKinds := [.data, .data, .data, .data, .pinned], laidTests := true, laidLooks := .later }
def DecTextsCardSaid : Prop := Claim7.holds Tryd.pinned (.plain (OpenSpec.ofChange decTextsSpec)) decTextsCard

/-- THE TIED CARD OF 'portolanlaw16.DecOfs'. -/
def decOfsCard : Claim7 := { stood := { row := decOfsRow, standIns := [], harness := (true, "7c645baa1e58ab6b4bb197d88709bd9760b286e5929cc3a86c96e33bbd22faff"), looks := false }, kinds := [], alts := [], laidByText := true, laidKinds := [.data, .data, .data, .data, .pinned], laidTests := true, laidLooks := .later }
def DecOfsCardSaid : Prop := Claim7.holds Tryd.pinned (.plain (OpenSpec.ofChange decOfsSpec)) decOfsCard

/-- THE TIED CARD OF 'portolanlaw16.DecOrders'. -/
def decOrdersCard : Claim7 := { stood := { row := decOrdersRow, standIns := [], harness := (true, "7c645baa1e58ab6b4bb197d88709bd9760b286e5929cc3a86c96e33bbd22faff"), looks := false }, kinds := [], alts := [], laidByText := true, laidKinds := [.data, .data, .data, .data, .pinned], laidTests := true, laidLooks := .later }
def DecOrdersCardSaid : Prop := Claim7.holds Tryd.pinned (.plain (OpenSpec.ofChange decOrdersSpec)) decOrdersCard

/-- THE TIED CARD OF 'portolanlaw16.DecLikes'. -/
def decLikesCard : Claim7 := { stood := { row := decLikesRow, standIns := [], harness := (true, "7c645baa1e58ab6b4bb197d88709bd9760b286e5929cc3a86c96e33bbd22faff"), looks := false }, kinds := [], alts := [], laidByText := true, laidKinds := [.data, .data, .data, .data, .pinned], laidTests := true, laidLooks := .later }
def DecLikesCardSaid : Prop := Claim7.holds Tryd.pinned (.plain (OpenSpec.ofChange decLikesSpec)) decLikesCard

/-- THE SECOND FORM's CARD OF 'portolanlaw15.UtfValid'. -/
def utfValidUptoCard : Claim7 := { stood := { row := utfValidUptoRow, standIns := [], harness := (true, "7c645baa1e58ab6b4bb197d88709bd9760b286e5929cc3a86c96e33bbd22faff"), looks := false }, kinds := [], alts := [], laidByText := true, laidKinds := [.data, .pinned], laidTests := true, laidLooks := .later }
def UtfValidUptoCardSaid : Prop := Claim7.holds Tryd.pinned (.plain (OpenSpec.upto utfValidSpec)) utfValidUptoCard

/-- THE SECOND FORM's CARD OF 'portolanlaw15.UtfUnquotes'. -/
def utfUnquotesUptoCard : Claim7 := { stood := { row := utfUnquotesUptoRow, standIns := [], harness := (true, "7c645baa1e58ab6b4bb197d88709bd9760b286e5929cc3a86c96e33bbd22faff"), looks := false }, kinds := [], alts := [], laidByText := true, laidKinds := [.data, .pinned], laidTests := true, laidLooks := .later }
def UtfUnquotesUptoCardSaid : Prop := Claim7.holds Tryd.pinned (.plain (OpenSpec.upto utfUnquotesSpec)) utfUnquotesUptoCard

/-- THE SECOND FORM's CARD OF 'portolanlaw15.UtfQuotes'. -/
def utfQuotesUptoCard : Claim7 := { stood := { row := utfQuotesUptoRow, standIns := [], harness := (true, "7c645baa1e58ab6b4bb197d88709bd9760b286e5929cc3a86c96e33bbd22faff"), looks := false }, kinds := [], alts := [], laidByText := true, laidKinds := [.data, .pinned], laidTests := true, laidLooks := .later }
def UtfQuotesUptoCardSaid : Prop := Claim7.holds Tryd.pinned (.plain (OpenSpec.upto utfQuotesSpec)) utfQuotesUptoCard

/-- THE SECOND FORM's CARD OF 'portolanlaw33.ReqWords'. -/
def reqWordsUptoCard : Claim7 := { stood := { row := reqWordsUptoRow, standIns := [], harness := (true, "7c645baa1e58ab6b4bb197d88709bd9760b286e5929cc3a86c96e33bbd22faff"), looks := false }, kinds := [], alts := [], laidByText := true, laidKinds := [.data, .pinned], laidTests := true, laidLooks := .later }
def ReqWordsUptoCardSaid : Prop := Claim7.holds Tryd.pinned (.plain (OpenSpec.upto reqWordsSpec)) reqWordsUptoCard

/-- THE SECOND FORM's CARD OF 'portolanlaw16.DecParses'. -/
def decParsesUptoCard : Claim7 := { stood := { row := decParsesUptoRow, standIns := [], harness := (true, "7c645baa1e58ab6b4bb197d88709bd9760b286e5929cc3a86c96e33bbd22faff"), looks := false }, kinds := [], alts := [], laidByText := true, laidKinds := [.data, .data, .data, .data, .pinned], laidTests := true, laidLooks := .later }
def DecParsesUptoCardSaid : Prop := Claim7.holds Tryd.pinned (.plain (OpenSpec.upto decParsesSpec)) decParsesUptoCard

/-- THE SECOND FORM's CARD OF 'portolanlaw16.DecTexts'. -/
def decTextsUptoCard : Claim7 := { stood := { row := decTextsUptoRow, standIns := [], harness := (true, "7c645baa1e58ab6b4bb197d88709bd9760b286e5929cc3a86c96e33bbd22faff"), looks := false }, kinds := [], alts := [], laidByText := true, laidKinds := [.data, .data, .data, .data, .pinned], laidTests := true, laidLooks := .later }
def DecTextsUptoCardSaid : Prop := Claim7.holds Tryd.pinned (.plain (OpenSpec.upto decTextsSpec)) decTextsUptoCard

/-- THE SECOND FORM's CARD OF 'portolanlaw16.DecOfs'. -/
def decOfsUptoCard : Claim7 := { stood := { row := decOfsUptoRow, standIns := [], harness := (true, "7c645baa1e58ab6b4bb197d88709bd9760b286e5929cc3a86c96e33bbd22faff"), looks := false }, kinds := [], alts := [], laidByText := true, laidKinds := [.data, .data, .data, .data, .pinned], laidTests := true, laidLooks := .later }
def DecOfsUptoCardSaid : Prop := Claim7.holds Tryd.pinned (.plain (OpenSpec.upto decOfsSpec)) decOfsUptoCard

/-- THE SECOND FORM's CARD OF 'portolanlaw16.DecOrders'. -/
def decOrdersUptoCard : Claim7 := { stood := { row := decOrdersUptoRow, standIns := [], harness := (true, "7c645baa1e58ab6b4bb197d88709bd9760b286e5929cc3a86c96e33bbd22faff"), looks := false }, kinds := [], alts := [], laidByText := true, laidKinds := [.data, .data, .data, .data, .pinned], laidTests := true, laidLooks := .later }
def DecOrdersUptoCardSaid : Prop := Claim7.holds Tryd.pinned (.plain (OpenSpec.upto decOrdersSpec)) decOrdersUptoCard

/-- THE SECOND FORM's CARD OF 'portolanlaw16.DecLikes'. -/
def decLikesUptoCard : Claim7 := { stood := { row := decLikesUptoRow, standIns := [], harness := (true, "7c645baa1e58ab6b4bb197d88709bd9760b286e5929cc3a86c96e33bbd22faff"), looks := false }, kinds := [], alts := [], laidByText := true, laidKinds := [.data, .data, .data, .data, .pinned], laidTests := true, laidLooks := .later }
def DecLikesUptoCardSaid : Prop := Claim7.holds Tryd.pinned (.plain (OpenSpec.upto decLikesSpec)) decLikesUptoCard
end Rows
end Go.Proofs.YtenkmfahcmahkaaDoor
