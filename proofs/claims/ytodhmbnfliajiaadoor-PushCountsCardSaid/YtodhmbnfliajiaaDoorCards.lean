/-
  DERIVED. GIVEN WITH THE SEED: THE CARDS: each row of YtodhmbnfliajiaaDoorRows.lean that lists a variable, with what it lists TIED to the program's text (the seventh form; the later family's looks); each row that meets fmt, with fmt's text TOLD by the authors' own Lean function (tested against real Go, not proved from fmt's source: count such statements apart). THE CARD IS WHAT COUNTS. Prove the row's statement (the work); the ties are given (YtodhmbnfliajiaaDoorTie.lean); close each card by the builder's one call (the guide's Derived/Test/ToyasCard.lean, 'card_holds'). Laid BY PROGRAM, IN A SANDBOX (cutbox-door.mjs). By AI agents, Wed Nov 11 2026. No macro, syntax, notation, axiom, sorry.
-/
import Derived.Test.YtodhmbnfliajiaaDoorRows
import GoSem.ClaimSeven
namespace Go.Proofs.YtodhmbnfliajiaaDoor
namespace Rows

/-- THE TIED CARD OF 'agoralaw27.PushCounts'. -/
def pushCountsCard : Claim7 := { stood := { row := pushCountsRow, standIns := [], harness := (true, "51872003e4dd4373781d157522fcbeda3729b8c284b8ab3c746c6ef0f70837f1"), looks := true }, kinds := [], alts := [], laidByText := true, laidKinds := [.data, .data, .data, .data, .sentinel, .sentinel, .pinned], laidTests := true, laidLooks := .later }
def PushCountsCardSaid : Prop := Claim7.holds Tryd.pinned (.plain (OpenSpec.ofChange pushCountsSpec)) pushCountsCard

/-- THE SECOND FORM's CARD OF 'agoralaw27.PushCounts'. -/
def pushCountsUptoCard : Claim7 := { stood := { row := pushCountsUptoRow, standIns := [], harness := (true, "51872003e4dd4373781d157522fcbeda3729b8c284b8ab3c746c6ef0f70837f1"), looks := true }, kinds := [], alts := [], laidByText := true, laidKinds := [.data, .data, .data, .data, .sentinel, .sentinel, .pinned], laidTests := true, laidLooks := .later }
def PushCountsUptoCardSaid : Prop := Claim7.holds Tryd.pinned (.plain (OpenSpec.upto pushCountsSpec)) pushCountsUptoCard
end Rows
end Go.Proofs.YtodhmbnfliajiaaDoor
