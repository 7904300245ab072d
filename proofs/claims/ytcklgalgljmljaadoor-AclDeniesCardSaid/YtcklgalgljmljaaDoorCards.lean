/-
  DERIVED. GIVEN WITH THE SEED: THE CARDS: each row of YtcklgalgljmljaaDoorRows.lean that lists a variable, with what it lists TIED to the program's text (the seventh form; the later family's looks); each row that meets fmt, with fmt's text TOLD by the authors' own Lean function (tested against real Go, not proved from fmt's source: count such statements apart). THE CARD IS WHAT COUNTS. Prove the row's statement (the work); the ties are given (YtcklgalgljmljaaDoorTie.lean); close each card by the builder's one call (the guide's Derived/Test/ToyasCard.lean, 'card_holds'). Laid BY PROGRAM, IN A SANDBOX (cutbox-door.mjs). By AI agents, Wed Nov 11 2026. No macro, syntax, notation, axiom, sorry.
-/
import Derived.Test.YtcklgalgljmljaaDoorRows
import GoSem.ClaimSeven
namespace Go.Proofs.YtcklgalgljmljaaDoor
namespace Rows

/-- THE TIED CARD OF 'agoralaw36.AclAllows'. -/
def aclAllowsCard : Claim7 := { stood := { row := aclAllowsRow, standIns := [], harness := (true, "cc2fca16dc265b926a023df7b226f31819068c5300041c1fd0ed143a72f8fb6d"), looks := false }, kinds := [], alts := [], laidByText := true, laidKinds := [.data, .pinned], laidTests := true, laidLooks := .later }
def AclAllowsCardSaid : Prop := Claim7.holds Tryd.pinned (.plain (OpenSpec.ofChange aclAllowsSpec)) aclAllowsCard

/-- THE TIED CARD OF 'agoralaw36.AclMore'. -/
def aclMoreCard : Claim7 := { stood := { row := aclMoreRow, standIns := [], harness := (true, "cc2fca16dc265b926a023df7b226f31819068c5300041c1fd0ed143a72f8fb6d"), looks := false }, kinds := [], alts := [], laidByText := true, laidKinds := [.data, .pinned], laidTests := true, laidLooks := .later }
def AclMoreCardSaid : Prop := Claim7.holds Tryd.pinned (.plain (OpenSpec.ofChange aclMoreSpec)) aclMoreCard

/-- THE TIED CARD OF 'agoralaw36.AclDenies'. -/
def aclDeniesCard : Claim7 := { stood := { row := aclDeniesRow, standIns := [], harness := (true, "cc2fca16dc265b926a023df7b226f31819068c5300041c1fd0ed143a72f8fb6d"), looks := false }, kinds := [], alts := [], laidByText := true, laidKinds := [.data, .pinned], laidTests := true, laidLooks := .later }
def AclDeniesCardSaid : Prop := Claim7.holds Tryd.pinned (.plain (OpenSpec.ofChange aclDeniesSpec)) aclDeniesCard

/-- THE SECOND FORM's CARD OF 'agoralaw36.AclAllows'. -/
def aclAllowsUptoCard : Claim7 := { stood := { row := aclAllowsUptoRow, standIns := [], harness := (true, "cc2fca16dc265b926a023df7b226f31819068c5300041c1fd0ed143a72f8fb6d"), looks := false }, kinds := [], alts := [], laidByText := true, laidKinds := [.data, .pinned], laidTests := true, laidLooks := .later }
def AclAllowsUptoCardSaid : Prop := Claim7.holds Tryd.pinned (.plain (OpenSpec.upto aclAllowsSpec)) aclAllowsUptoCard

/-- THE SECOND FORM's CARD OF 'agoralaw36.AclMore'. -/
def aclMoreUptoCard : Claim7 := { stood := { row := aclMoreUptoRow, standIns := [], harness := (true, "cc2fca16dc265b926a023df7b226f31819068c5300041c1fd0ed143a72f8fb6d"), looks := false }, kinds := [], alts := [], laidByText := true, laidKinds := [.data, .pinned], laidTests := true, laidLooks := .later }
def AclMoreUptoCardSaid : Prop := Claim7.holds Tryd.pinned (.plain (OpenSpec.upto aclMoreSpec)) aclMoreUptoCard

/-- THE SECOND FORM's CARD OF 'agoralaw36.AclDenies'. -/
def aclDeniesUptoCard : Claim7 := { stood := { row := aclDeniesUptoRow, standIns := [], harness := (true, "cc2fca16dc265b926a023df7b226f31819068c5300041c1fd0ed143a72f8fb6d"), looks := false }, kinds := [], alts := [], laidByText := true, laidKinds := [.data, .pinned], laidTests := true, laidLooks := .later }
def AclDeniesUptoCardSaid : Prop := Claim7.holds Tryd.pinned (.plain (OpenSpec.upto aclDeniesSpec)) aclDeniesUptoCard
end Rows
end Go.Proofs.YtcklgalgljmljaaDoor
