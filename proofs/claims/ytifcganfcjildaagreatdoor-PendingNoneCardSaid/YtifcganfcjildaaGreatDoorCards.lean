/-
  DERIVED. GIVEN WITH THE SEED: THE CARDS: each row of YtifcganfcjildaaGreatDoorRows.lean that lists a variable, with what it lists TIED to the program's text (the seventh form; the later family's looks); each row that meets fmt, with fmt's text TOLD by the authors' own Lean function (tested against real Go, not proved from fmt's source: count such statements apart). THE CARD IS WHAT COUNTS. Prove the row's statement (the work); the ties are given (YtifcganfcjildaaGreatDoorTie.lean); close each card by the builder's one call (the guide's Derived/Test/ToyasCard.lean, 'card_holds'). Laid BY PROGRAM, IN A SANDBOX (cutbox-door.mjs). By AI agents, Wed Nov 11 2026. No macro, syntax, notation, axiom, sorry.
-/
import Derived.Test.YtifcganfcjildaaGreatDoorRows
import GoSem.ClaimSeven
namespace Go.Proofs.YtifcganfcjildaaGreatDoor
namespace Rows

/-- THE TIED CARD OF 'agoralaw13.ResolveOne'. -/
def resolveOneCard : Claim7 := { stood := { row := resolveOneRow, standIns := [], harness := (true, "3b2d9862eebbfa01614469d8d1b3d6c8efc5fca5f4d817e74cdf162c52808ca4"), looks := true }, kinds := [], alts := [], laidByText := true, laidKinds := [.data, .data, .data, .data, .pinned], laidTests := true, laidLooks := .later }
def ResolveOneCardSaid : Prop := Claim7.holds Tryz.pinned (.plain (OpenSpec.ofChange resolveOneSpec)) resolveOneCard

/-- THE TIED CARD OF 'agoralaw14.RoomHeights'. -/
def roomHeightsCard : Claim7 := { stood := { row := roomHeightsRow, standIns := [], harness := (true, "3b2d9862eebbfa01614469d8d1b3d6c8efc5fca5f4d817e74cdf162c52808ca4"), looks := true }, kinds := [], alts := [], laidByText := true, laidKinds := [.data, .data, .data, .data, .pinned], laidTests := true, laidLooks := .later }
def RoomHeightsCardSaid : Prop := Claim7.holds Tryz.pinned (.plain (OpenSpec.ofChange roomHeightsSpec)) roomHeightsCard

/-- THE TIED CARD OF 'agoralaw15.ChooseNone'. -/
def chooseNoneCard : Claim7 := { stood := { row := chooseNoneRow, standIns := [], harness := (true, "3b2d9862eebbfa01614469d8d1b3d6c8efc5fca5f4d817e74cdf162c52808ca4"), looks := true }, kinds := [], alts := [], laidByText := true, laidKinds := [.data, .data, .data, .data, .pinned], laidTests := true, laidLooks := .later }
def ChooseNoneCardSaid : Prop := Claim7.holds Tryz.pinned (.plain (OpenSpec.ofChange chooseNoneSpec)) chooseNoneCard

/-- THE TIED CARD OF 'agoralaw19.PendingNone'. -/
def pendingNoneCard : Claim7 := { stood := { row := pendingNoneRow, standIns := [], harness := (true, "3b2d9862eebbfa01614469d8d1b3d6c8efc5fca5f4d817e74cdf162c52808ca4"), looks := true }, kinds := [], alts := [], laidByText := true, laidKinds := [.data, .data, .data, .data, .pinned], laidTests := true, laidLooks := .later }
def PendingNoneCardSaid : Prop := Claim7.holds Tryz.pinned (.plain (OpenSpec.ofChange pendingNoneSpec)) pendingNoneCard

/-- THE TIED CARD OF 'agoralaw33.VisibleRanks'. -/
def visibleRanksCard : Claim7 := { stood := { row := visibleRanksRow, standIns := [], harness := (true, "3b2d9862eebbfa01614469d8d1b3d6c8efc5fca5f4d817e74cdf162c52808ca4"), looks := true }, kinds := [], alts := [], laidByText := true, laidKinds := [.data, .data, .data, .data, .pinned], laidTests := true, laidLooks := .later }
def VisibleRanksCardSaid : Prop := Claim7.holds Tryz.pinned (.plain (OpenSpec.ofChange visibleRanksSpec)) visibleRanksCard

/-- THE TIED CARD OF 'agoralaw14.RoomNone'. -/
def roomNoneCard : Claim7 := { stood := { row := roomNoneRow, standIns := [], harness := (true, "3b2d9862eebbfa01614469d8d1b3d6c8efc5fca5f4d817e74cdf162c52808ca4"), looks := true }, kinds := [], alts := [], laidByText := true, laidKinds := [.data, .data, .data, .data, .pinned], laidTests := true, laidLooks := .later }
def RoomNoneCardSaid : Prop := Claim7.holds Tryz.pinned (.plain (OpenSpec.ofChange roomNoneSpec)) roomNoneCard

/-- THE TIED CARD OF 'agoralaw36.AclNone'. -/
def aclNoneCard : Claim7 := { stood := { row := aclNoneRow, standIns := [], harness := (true, "3b2d9862eebbfa01614469d8d1b3d6c8efc5fca5f4d817e74cdf162c52808ca4"), looks := true }, kinds := [], alts := [], laidByText := true, laidKinds := [.data, .data, .data, .data, .pinned], laidTests := true, laidLooks := .later }
def AclNoneCardSaid : Prop := Claim7.holds Tryz.pinned (.plain (OpenSpec.ofChange aclNoneSpec)) aclNoneCard

/-- THE SECOND FORM's CARD OF 'agoralaw13.ResolveOne'. -/
def resolveOneUptoCard : Claim7 := { stood := { row := resolveOneUptoRow, standIns := [], harness := (true, "3b2d9862eebbfa01614469d8d1b3d6c8efc5fca5f4d817e74cdf162c52808ca4"), looks := true }, kinds := [], alts := [], laidByText := true, laidKinds := [.data, .data, .data, .data, .pinned], laidTests := true, laidLooks := .later }
def ResolveOneUptoCardSaid : Prop := Claim7.holds Tryz.pinned (.plain (OpenSpec.upto resolveOneSpec)) resolveOneUptoCard

/-- THE SECOND FORM's CARD OF 'agoralaw14.RoomHeights'. -/
def roomHeightsUptoCard : Claim7 := { stood := { row := roomHeightsUptoRow, standIns := [], harness := (true, "3b2d9862eebbfa01614469d8d1b3d6c8efc5fca5f4d817e74cdf162c52808ca4"), looks := true }, kinds := [], alts := [], laidByText := true, laidKinds := [.data, .data, .data, .data, .pinned], laidTests := true, laidLooks := .later }
def RoomHeightsUptoCardSaid : Prop := Claim7.holds Tryz.pinned (.plain (OpenSpec.upto roomHeightsSpec)) roomHeightsUptoCard

/-- THE SECOND FORM's CARD OF 'agoralaw15.ChooseNone'. -/
def chooseNoneUptoCard : Claim7 := { stood := { row := chooseNoneUptoRow, standIns := [], harness := (true, "3b2d9862eebbfa01614469d8d1b3d6c8efc5fca5f4d817e74cdf162c52808ca4"), looks := true }, kinds := [], alts := [], laidByText := true, laidKinds := [.data, .data, .data, .data, .pinned], laidTests := true, laidLooks := .later }
def ChooseNoneUptoCardSaid : Prop := Claim7.holds Tryz.pinned (.plain (OpenSpec.upto chooseNoneSpec)) chooseNoneUptoCard

/-- THE SECOND FORM's CARD OF 'agoralaw19.PendingNone'. -/
def pendingNoneUptoCard : Claim7 := { stood := { row := pendingNoneUptoRow, standIns := [], harness := (true, "3b2d9862eebbfa01614469d8d1b3d6c8efc5fca5f4d817e74cdf162c52808ca4"), looks := true }, kinds := [], alts := [], laidByText := true, laidKinds := [.data, .data, .data, .data, .pinned], laidTests := true, laidLooks := .later }
def PendingNoneUptoCardSaid : Prop := Claim7.holds Tryz.pinned (.plain (OpenSpec.upto pendingNoneSpec)) pendingNoneUptoCard

/-- THE SECOND FORM's CARD OF 'agoralaw33.VisibleRanks'. -/
def visibleRanksUptoCard : Claim7 := { stood := { row := visibleRanksUptoRow, standIns := [], harness := (true, "3b2d9862eebbfa01614469d8d1b3d6c8efc5fca5f4d817e74cdf162c52808ca4"), looks := true }, kinds := [], alts := [], laidByText := true, laidKinds := [.data, .data, .data, .data, .pinned], laidTests := true, laidLooks := .later }
def VisibleRanksUptoCardSaid : Prop := Claim7.holds Tryz.pinned (.plain (OpenSpec.upto visibleRanksSpec)) visibleRanksUptoCard

/-- THE SECOND FORM's CARD OF 'agoralaw14.RoomNone'. -/
def roomNoneUptoCard : Claim7 := { stood := { row := roomNoneUptoRow, standIns := [], harness := (true, "3b2d9862eebbfa01614469d8d1b3d6c8efc5fca5f4d817e74cdf162c52808ca4"), looks := true }, kinds := [], alts := [], laidByText := true, laidKinds := [.data, .data, .data, .data, .pinned], laidTests := true, laidLooks := .later }
def RoomNoneUptoCardSaid : Prop := Claim7.holds Tryz.pinned (.plain (OpenSpec.upto roomNoneSpec)) roomNoneUptoCard

/-- THE SECOND FORM's CARD OF 'agoralaw36.AclNone'. -/
def aclNoneUptoCard : Claim7 := { stood := { row := aclNoneUptoRow, standIns := [], harness := (true, "3b2d9862eebbfa01614469d8d1b3d6c8efc5fca5f4d817e74cdf162c52808ca4"), looks := true }, kinds := [], alts := [], laidByText := true, laidKinds := [.data, .data, .data, .data, .pinned], laidTests := true, laidLooks := .later }
def AclNoneUptoCardSaid : Prop := Claim7.holds Tryz.pinned (.plain (OpenSpec.upto aclNoneSpec)) aclNoneUptoCard
end Rows
end Go.Proofs.YtifcganfcjildaaGreatDoor
