/-
  DERIVED. GIVEN WITH THE SEED: THE CARDS: each row of YtnebhefmalcegaaDoorRows.lean that lists a variable, with what it lists TIED to the program's text (the seventh form; the later family's looks); each row that meets fmt, with fmt's text TOLD by the authors' own Lean function (tested against real Go, not proved from fmt's source: count such statements apart). THE CARD IS WHAT COUNTS. Prove the row's statement (the work); the ties are given (YtnebhefmalcegaaDoorTie.lean); close each card by the builder's one call (the guide's Derived/Test/ToyasCard.lean, 'card_holds'). Laid BY PROGRAM, IN A SANDBOX (cutbox-door.mjs). By AI agents, Wed Nov 11 2026. No macro, syntax, notation, axiom, sorry.
-/
import Derived.Test.YtnebhefmalcegaaDoorRows
import GoSem.ClaimSeven
namespace Go.Proofs.YtnebhefmalcegaaDoor
namespace Rows

/-- THE TIED CARD OF 'agoralaw28.PagePages'. -/
def pagePagesCard : Claim7 := { stood := { row := pagePagesRow, standIns := [], harness := (true, "2d496cb3729a1093f7e435382dab612df5b7707c0fa1499ad2a15edc57d6c495"), looks := true }, kinds := [], alts := [], laidByText := true, laidKinds := [.data, .data, .data], laidTests := true, laidLooks := .later }
def PagePagesCardSaid : Prop := Claim7.holds Tryd.pinned (.plain (OpenSpec.ofChange pagePagesSpec)) pagePagesCard

/-- THE TIED CARD OF 'agoralaw28.PageAll'. -/
def pageAllCard : Claim7 := { stood := { row := pageAllRow, standIns := [], harness := (true, "2d496cb3729a1093f7e435382dab612df5b7707c0fa1499ad2a15edc57d6c495"), looks := true }, kinds := [], alts := [], laidByText := true, laidKinds := [.data, .data, .data], laidTests := true, laidLooks := .later }
def PageAllCardSaid : Prop := Claim7.holds Tryd.pinned (.plain (OpenSpec.ofChange pageAllSpec)) pageAllCard

/-- THE TIED CARD OF 'agoralaw28.PageMeets'. -/
def pageMeetsCard : Claim7 := { stood := { row := pageMeetsRow, standIns := [], harness := (true, "2d496cb3729a1093f7e435382dab612df5b7707c0fa1499ad2a15edc57d6c495"), looks := true }, kinds := [], alts := [], laidByText := true, laidKinds := [.data, .data, .data], laidTests := true, laidLooks := .later }
def PageMeetsCardSaid : Prop := Claim7.holds Tryd.pinned (.plain (OpenSpec.ofChange pageMeetsSpec)) pageMeetsCard

/-- THE TIED CARD OF 'agoralaw28.PageAround'. -/
def pageAroundCard : Claim7 := { stood := { row := pageAroundRow, standIns := [], harness := (true, "2d496cb3729a1093f7e435382dab612df5b7707c0fa1499ad2a15edc57d6c495"), looks := true }, kinds := [], alts := [], laidByText := true, laidKinds := [.data, .data, .data], laidTests := true, laidLooks := .later }
def PageAroundCardSaid : Prop := Claim7.holds Tryd.pinned (.plain (OpenSpec.ofChange pageAroundSpec)) pageAroundCard

/-- THE TIED CARD OF 'agoralaw28.PageTokens'. -/
def pageTokensCard : Claim7 := { stood := { row := pageTokensRow, standIns := [], harness := (true, "2d496cb3729a1093f7e435382dab612df5b7707c0fa1499ad2a15edc57d6c495"), looks := true }, kinds := [], alts := [], laidByText := true, laidKinds := [.data, .data, .data, .sentinel, .sentinel], laidTests := true, laidLooks := .later }
def PageTokensCardSaid : Prop := Claim7.holds Tryd.pinned (.plain (OpenSpec.ofChange pageTokensSpec)) pageTokensCard

/-- THE SECOND FORM's CARD OF 'agoralaw28.PagePages'. -/
def pagePagesUptoCard : Claim7 := { stood := { row := pagePagesUptoRow, standIns := [], harness := (true, "2d496cb3729a1093f7e435382dab612df5b7707c0fa1499ad2a15edc57d6c495"), looks := true }, kinds := [], alts := [], laidByText := true, laidKinds := [.data, .data, .data], laidTests := true, laidLooks := .later }
def PagePagesUptoCardSaid : Prop := Claim7.holds Tryd.pinned (.plain (OpenSpec.upto pagePagesSpec)) pagePagesUptoCard

/-- THE SECOND FORM's CARD OF 'agoralaw28.PageAll'. -/
def pageAllUptoCard : Claim7 := { stood := { row := pageAllUptoRow, standIns := [], harness := (true, "2d496cb3729a1093f7e435382dab612df5b7707c0fa1499ad2a15edc57d6c495"), looks := true }, kinds := [], alts := [], laidByText := true, laidKinds := [.data, .data, .data], laidTests := true, laidLooks := .later }
def PageAllUptoCardSaid : Prop := Claim7.holds Tryd.pinned (.plain (OpenSpec.upto pageAllSpec)) pageAllUptoCard

/-- THE SECOND FORM's CARD OF 'agoralaw28.PageMeets'. -/
def pageMeetsUptoCard : Claim7 := { stood := { row := pageMeetsUptoRow, standIns := [], harness := (true, "2d496cb3729a1093f7e435382dab612df5b7707c0fa1499ad2a15edc57d6c495"), looks := true }, kinds := [], alts := [], laidByText := true, laidKinds := [.data, .data, .data], laidTests := true, laidLooks := .later }
def PageMeetsUptoCardSaid : Prop := Claim7.holds Tryd.pinned (.plain (OpenSpec.upto pageMeetsSpec)) pageMeetsUptoCard

/-- THE SECOND FORM's CARD OF 'agoralaw28.PageAround'. -/
def pageAroundUptoCard : Claim7 := { stood := { row := pageAroundUptoRow, standIns := [], harness := (true, "2d496cb3729a1093f7e435382dab612df5b7707c0fa1499ad2a15edc57d6c495"), looks := true }, kinds := [], alts := [], laidByText := true, laidKinds := [.data, .data, .data], laidTests := true, laidLooks := .later }
def PageAroundUptoCardSaid : Prop := Claim7.holds Tryd.pinned (.plain (OpenSpec.upto pageAroundSpec)) pageAroundUptoCard

/-- THE SECOND FORM's CARD OF 'agoralaw28.PageTokens'. -/
def pageTokensUptoCard : Claim7 := { stood := { row := pageTokensUptoRow, standIns := [], harness := (true, "2d496cb3729a1093f7e435382dab612df5b7707c0fa1499ad2a15edc57d6c495"), looks := true }, kinds := [], alts := [], laidByText := true, laidKinds := [.data, .data, .data, .sentinel, .sentinel], laidTests := true, laidLooks := .later }
def PageTokensUptoCardSaid : Prop := Claim7.holds Tryd.pinned (.plain (OpenSpec.upto pageTokensSpec)) pageTokensUptoCard
end Rows
end Go.Proofs.YtnebhefmalcegaaDoor
