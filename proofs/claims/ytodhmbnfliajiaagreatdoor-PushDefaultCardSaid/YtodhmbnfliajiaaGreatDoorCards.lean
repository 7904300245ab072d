/-
  DERIVED. GIVEN WITH THE SEED: THE CARDS: each row of YtodhmbnfliajiaaGreatDoorRows.lean that lists a variable, with what it lists TIED to the program's text (the seventh form; the later family's looks); each row that meets fmt, with fmt's text TOLD by the authors' own Lean function (tested against real Go, not proved from fmt's source: count such statements apart). THE CARD IS WHAT COUNTS. Prove the row's statement (the work); the ties are given (YtodhmbnfliajiaaGreatDoorTie.lean); close each card by the builder's one call (the guide's Derived/Test/ToyasCard.lean, 'card_holds'). Laid BY PROGRAM, IN A SANDBOX (cutbox-door.mjs). By AI agents, Wed Nov 11 2026. No macro, syntax, notation, axiom, sorry.
-/
import Derived.Test.YtodhmbnfliajiaaGreatDoorRows
import GoSem.ClaimSeven
namespace Go.Proofs.YtodhmbnfliajiaaGreatDoor
namespace Rows

/-- THE TIED CARD OF 'agoralaw27.PushHolds'. -/
def pushHoldsCard : Claim7 := { stood := { row := pushHoldsRow, standIns := [], harness := (true, "3df7542b6fa51bb518b32ff1c65302745285f8840bea43257833047a1d97f666"), looks := true }, kinds := [], alts := [], laidByText := true, laidKinds := [.data, .data, .data, .data, .sentinel, .sentinel, .pinned], laidTests := true, laidLooks := .later }
def PushHoldsCardSaid : Prop := Claim7.holds Tryz.pinned (.plain (OpenSpec.ofChange pushHoldsSpec)) pushHoldsCard

/-- THE TIED CARD OF 'agoralaw27.PushTells'. -/
def pushTellsCard : Claim7 := { stood := { row := pushTellsRow, standIns := [], harness := (true, "3df7542b6fa51bb518b32ff1c65302745285f8840bea43257833047a1d97f666"), looks := true }, kinds := [], alts := [], laidByText := true, laidKinds := [.data, .data, .data, .data, .sentinel, .sentinel, .pinned], laidTests := true, laidLooks := .later }
def PushTellsCardSaid : Prop := Claim7.holds Tryz.pinned (.plain (OpenSpec.ofChange pushTellsSpec)) pushTellsCard

/-- THE TIED CARD OF 'agoralaw27.PushDefault'. -/
def pushDefaultCard : Claim7 := { stood := { row := pushDefaultRow, standIns := [], harness := (true, "3df7542b6fa51bb518b32ff1c65302745285f8840bea43257833047a1d97f666"), looks := true }, kinds := [], alts := [], laidByText := true, laidKinds := [.data, .data, .data, .data, .sentinel, .sentinel, .pinned], laidTests := true, laidLooks := .later }
def PushDefaultCardSaid : Prop := Claim7.holds Tryz.pinned (.plain (OpenSpec.ofChange pushDefaultSpec)) pushDefaultCard

/-- THE TIED CARD OF 'agoralaw27.PushFirst'. -/
def pushFirstCard : Claim7 := { stood := { row := pushFirstRow, standIns := [], harness := (true, "3df7542b6fa51bb518b32ff1c65302745285f8840bea43257833047a1d97f666"), looks := true }, kinds := [], alts := [], laidByText := true, laidKinds := [.data, .data, .data, .data, .sentinel, .sentinel, .pinned], laidTests := true, laidLooks := .later }
def PushFirstCardSaid : Prop := Claim7.holds Tryz.pinned (.plain (OpenSpec.ofChange pushFirstSpec)) pushFirstCard

/-- THE TIED CARD OF 'agoralaw27.PushOff'. -/
def pushOffCard : Claim7 := { stood := { row := pushOffRow, standIns := [], harness := (true, "3df7542b6fa51bb518b32ff1c65302745285f8840bea43257833047a1d97f666"), looks := true }, kinds := [], alts := [], laidByText := true, laidKinds := [.data, .data, .data, .data, .sentinel, .sentinel, .pinned], laidTests := true, laidLooks := .later }
def PushOffCardSaid : Prop := Claim7.holds Tryz.pinned (.plain (OpenSpec.ofChange pushOffSpec)) pushOffCard

/-- THE TIED CARD OF 'agoralaw27.PushOwn'. -/
def pushOwnCard : Claim7 := { stood := { row := pushOwnRow, standIns := [], harness := (true, "3df7542b6fa51bb518b32ff1c65302745285f8840bea43257833047a1d97f666"), looks := true }, kinds := [], alts := [], laidByText := true, laidKinds := [.data, .data, .data, .data, .sentinel, .sentinel, .pinned], laidTests := true, laidLooks := .later }
def PushOwnCardSaid : Prop := Claim7.holds Tryz.pinned (.plain (OpenSpec.ofChange pushOwnSpec)) pushOwnCard

/-- THE SECOND FORM's CARD OF 'agoralaw27.PushHolds'. -/
def pushHoldsUptoCard : Claim7 := { stood := { row := pushHoldsUptoRow, standIns := [], harness := (true, "3df7542b6fa51bb518b32ff1c65302745285f8840bea43257833047a1d97f666"), looks := true }, kinds := [], alts := [], laidByText := true, laidKinds := [.data, .data, .data, .data, .sentinel, .sentinel, .pinned], laidTests := true, laidLooks := .later }
def PushHoldsUptoCardSaid : Prop := Claim7.holds Tryz.pinned (.plain (OpenSpec.upto pushHoldsSpec)) pushHoldsUptoCard

/-- THE SECOND FORM's CARD OF 'agoralaw27.PushTells'. -/
def pushTellsUptoCard : Claim7 := { stood := { row := pushTellsUptoRow, standIns := [], harness := (true, "3df7542b6fa51bb518b32ff1c65302745285f8840bea43257833047a1d97f666"), looks := true }, kinds := [], alts := [], laidByText := true, laidKinds := [.data, .data, .data, .data, .sentinel, .sentinel, .pinned], laidTests := true, laidLooks := .later }
def PushTellsUptoCardSaid : Prop := Claim7.holds Tryz.pinned (.plain (OpenSpec.upto pushTellsSpec)) pushTellsUptoCard

/-- THE SECOND FORM's CARD OF 'agoralaw27.PushDefault'. -/
def pushDefaultUptoCard : Claim7 := { stood := { row := pushDefaultUptoRow, standIns := [], harness := (true, "3df7542b6fa51bb518b32ff1c65302745285f8840bea43257833047a1d97f666"), looks := true }, kinds := [], alts := [], laidByText := true, laidKinds := [.data, .data, .data, .data, .sentinel, .sentinel, .pinned], laidTests := true, laidLooks := .later }
def PushDefaultUptoCardSaid : Prop := Claim7.holds Tryz.pinned (.plain (OpenSpec.upto pushDefaultSpec)) pushDefaultUptoCard

/-- THE SECOND FORM's CARD OF 'agoralaw27.PushFirst'. -/
def pushFirstUptoCard : Claim7 := { stood := { row := pushFirstUptoRow, standIns := [], harness := (true, "3df7542b6fa51bb518b32ff1c65302745285f8840bea43257833047a1d97f666"), looks := true }, kinds := [], alts := [], laidByText := true, laidKinds := [.data, .data, .data, .data, .sentinel, .sentinel, .pinned], laidTests := true, laidLooks := .later }
def PushFirstUptoCardSaid : Prop := Claim7.holds Tryz.pinned (.plain (OpenSpec.upto pushFirstSpec)) pushFirstUptoCard

/-- THE SECOND FORM's CARD OF 'agoralaw27.PushOff'. -/
def pushOffUptoCard : Claim7 := { stood := { row := pushOffUptoRow, standIns := [], harness := (true, "3df7542b6fa51bb518b32ff1c65302745285f8840bea43257833047a1d97f666"), looks := true }, kinds := [], alts := [], laidByText := true, laidKinds := [.data, .data, .data, .data, .sentinel, .sentinel, .pinned], laidTests := true, laidLooks := .later }
def PushOffUptoCardSaid : Prop := Claim7.holds Tryz.pinned (.plain (OpenSpec.upto pushOffSpec)) pushOffUptoCard

/-- THE SECOND FORM's CARD OF 'agoralaw27.PushOwn'. -/
def pushOwnUptoCard : Claim7 := { stood := { row := pushOwnUptoRow, standIns := [], harness := (true, "3df7542b6fa51bb518b32ff1c65302745285f8840bea43257833047a1d97f666"), looks := true }, kinds := [], alts := [], laidByText := true, laidKinds := [.data, .data, .data, .data, .sentinel, .sentinel, .pinned], laidTests := true, laidLooks := .later }
def PushOwnUptoCardSaid : Prop := Claim7.holds Tryz.pinned (.plain (OpenSpec.upto pushOwnSpec)) pushOwnUptoCard
end Rows
end Go.Proofs.YtodhmbnfliajiaaGreatDoor
