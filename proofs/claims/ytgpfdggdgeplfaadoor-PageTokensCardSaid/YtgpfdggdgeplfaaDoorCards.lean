/-
  DERIVED. GIVEN WITH THE SEED: THE CARDS: each row of YtgpfdggdgeplfaaDoorRows.lean that lists a variable, with what it lists TIED to the program's text (the seventh form; the later family's looks); each row that meets fmt, with fmt's text TOLD by the authors' own Lean function (tested against real Go, not proved from fmt's source: count such statements apart). THE CARD IS WHAT COUNTS. Prove the row's statement (the work); the ties are given (YtgpfdggdgeplfaaDoorTie.lean); close each card by the builder's one call (the guide's Derived/Test/ToyasCard.lean, 'card_holds'). Laid BY PROGRAM, IN A SANDBOX (cutbox-door.mjs). By AI agents, Wed Nov 11 2026. No macro, syntax, notation, axiom, sorry.
-/
import Derived.Test.YtgpfdggdgeplfaaDoorRows
import GoSem.ClaimSeven
namespace Go.Proofs.YtgpfdggdgeplfaaDoor
namespace Rows

/-- THE TIED CARD OF 'agoralaw28.PageTokens'. -/
def pageTokensCard : Claim7 := { stood := { row := pageTokensRow, standIns := [], harness := (true, "c7f85fca6b0a71a2f076907c52808028d1fd43b3bddd7557058fd8aee22b22a5"), looks := true }, kinds := [], alts := [], laidByText := true, laidKinds := [.data, .data, .data, .sentinel, .sentinel], laidTests := true, laidLooks := .later }
def PageTokensCardSaid : Prop := Claim7.holds Tryd.pinned (.plain (OpenSpec.ofChange pageTokensSpec)) pageTokensCard

/-- THE SECOND FORM's CARD OF 'agoralaw28.PageTokens'. -/
def pageTokensUptoCard : Claim7 := { stood := { row := pageTokensUptoRow, standIns := [], harness := (true, "c7f85fca6b0a71a2f076907c52808028d1fd43b3bddd7557058fd8aee22b22a5"), looks := true }, kinds := [], alts := [], laidByText := true, laidKinds := [.data, .data, .data, .sentinel, .sentinel], laidTests := true, laidLooks := .later }
def PageTokensUptoCardSaid : Prop := Claim7.holds Tryd.pinned (.plain (OpenSpec.upto pageTokensSpec)) pageTokensUptoCard
end Rows
end Go.Proofs.YtgpfdggdgeplfaaDoor
