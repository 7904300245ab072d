/- Merged out of: HandFew14, RX, RShC, RShJ, RShM, RX1, RFitC, RFitJ. -/
import Derived.WalkKit
import Derived.WalkSpells
import Derived.Deep.LoopGhost
import Derived.Lib.Hide
import Derived.BigQuiet
import Derived.Deep.QuietTactic
import Derived.Test.YtifcganfcjildaaGreatDoorHandFewK
import Derived.Test.YtifcganfcjildaaGreatDoorJ5
import Derived.Test.YtifcganfcjildaaGreatDoorKx0
import Derived.Test.YtifcganfcjildaaGreatDoorJ14
import Derived.Test.YtifcganfcjildaaGreatDoorProg
import Derived.KernelRfl
/- HandFew14: a text of this claim's proof, as printed or written, without what the claim does not use. -/
namespace Go.Proofs.YtifcganfcjildaaGreatDoor.K
open Go.RowKit Go.Proofs.YtifcganfcjildaaGreatDoorW.PrintWords Go.Proofs.YtifcganfcjildaaGreatDoorW.PrintLast Go.Proofs.YtifcganfcjildaaGreatDoorW.PrintMore
set_option linter.unusedVariables false
set_option linter.unusedSimpArgs false
end Go.Proofs.YtifcganfcjildaaGreatDoor.K

/- The machine over names at this program: what stands beside the code, and what is known of the events that the examples speak of. -/
namespace Go.Proofs.YtifcganfcjildaaGreatDoor.E
open Go Go.RowKit
set_option linter.unusedVariables false
set_option linter.unusedSimpArgs false
set_option linter.unnecessarySimpa false
noncomputable section

def extX (g : FuncId) : Option (List AV → Fr AV) := match Nat.beq g 443 with
  | true => some idxA
  | false => match Nat.beq g 163 with
    | true => some cloneA
    | false => none
def X0 : Ctx := ⟨Tryz.prog, extX, fun _ => none⟩
theorem num_all : (Tryz.prog.funcs.toList.all fun fn => !(fn.name == "runtime.NumGoroutine")) = true := by kernel_rfl
theorem num_X (g : Nat) (fn : Func) (h : Tryz.prog.funcs[g]? = some fn) : (fn.name == "runtime.NumGoroutine") = false := by
  have h1 := num_all
  rw [List.all_eq_true] at h1
  have h2 : fn ∈ Tryz.prog.funcs.toList := by
    rw [Array.mem_toList_iff]
    exact Array.mem_of_getElem? h
  simpa using h1 fn h2
theorem ext_X {g : FuncId} {e : List AV → Fr AV} (h : extX g = some e) : ExtOk Tryz.prog g e := by
  unfold extX at h
  split at h
  · next hb =>
    have := Nat.eq_of_beq_eq_true hb
    subst this
    obtain rfl := Option.some.inj h
    exact idx_ok Tryz.func443 (num_X _ _ Tryz.func443) (by rfl) (by kernel_rfl) (by kernel_rfl)
  · split at h
    · next hb =>
      have := Nat.eq_of_beq_eq_true hb
      subst this
      obtain rfl := Option.some.inj h
      exact clone_ok Tryz.func163 (num_X _ _ Tryz.func163) (by rfl) (by kernel_rfl) (by kernel_rfl)
    · cases h
theorem mixed_X : Tryz.prog.follows .mixedOrders = true := by kernel_rfl
theorem X0_ok (n0 : Nat) (w0 : World) : XOk X0 n0 w0 := ⟨num_X, fun g e h args v s s' hr lm φ w L hR hm hl => ext_X h args v s s' hr n0 w0 lm φ w L hR hm hl, fun g e h => by cases h⟩
/-! ### Events -/
def tx (l : List Nat) : AV := .str l
def nn (n : Nat) : AV := .int .i64 (Int.ofNat n)
def sl1 (h es : Nat) : AV := .sl h 0 1 es (some 1)
def evA (room type sender : List Nat) (st : Bool) (key : List Nat) (c : List AV) (prev auth : AV) (depth ts : Nat) : AV := .agg ([.str room, .str type, .str sender, .bool st, .str key] ++ c ++ [prev, auth, nn depth, nn ts, .str [], .nils])
def txtA (s : List Nat) : List AV := [nn 3, nn 0, .str s, .nils, .nils]
def mapA : List AV := [nn 5, nn 0, .str [], sl1 0 1, sl1 1 5]
def tCreate : List Nat := [109, 46, 114, 111, 111, 109, 46, 99, 114, 101, 97, 116, 101]
def tMember : List Nat := [109, 46, 114, 111, 111, 109, 46, 109, 101, 109, 98, 101, 114]
def tMessage : List Nat := [109, 46, 114, 111, 111, 109, 46, 109, 101, 115, 115, 97, 103, 101]
def roomN : List Nat := [33, 114, 58, 115, 49]
def usA : List Nat := [64, 97, 58, 115, 49]
def usB2 : List Nat := [64, 98, 58, 115, 50]
def nmE : List Nat := [36, 65, 65, 65, 65, 65, 65, 65, 65, 65, 65, 69]
def nmI : List Nat := [36, 65, 65, 65, 65, 65, 65, 65, 65, 65, 65, 73]
def wCreator : List Nat := [99, 114, 101, 97, 116, 111, 114]
def wMembership : List Nat := [109, 101, 109, 98, 101, 114, 115, 104, 105, 112]
def wJoin : List Nat := [106, 111, 105, 110]
/-- The room's beginning; its maker joins; one who is not there speaks. -/
def evC : AV := evA roomN tCreate usA true [] mapA .nils .nils 0 0
def cellsC : List (List AV) := [[.str wCreator], txtA usA]
def evJ : AV := evA roomN tMember usA true usA mapA (sl1 2 1) (sl1 3 1) 1 0
def cellsJ : List (List AV) := [[.str wMembership], txtA wJoin, [.str nmE], [.str nmE]]
def evM : AV := evA roomN tMessage usB2 false [] [nn 5, nn 0, .str [], .nils, .nils] (sl1 0 1) (sl1 1 1) 2 0
def cellsM : List (List AV) := [[.str nmI], [.str nmE]]
def shC : Ent := ⟨[evC], cellsC, nn 0⟩
def shJ : Ent := ⟨[evJ], cellsJ, nn 0⟩
def shM : Ent := ⟨[evM], cellsM, nn 0⟩
end
end Go.Proofs.YtifcganfcjildaaGreatDoor.E

/- An event's shape, run. -/
namespace Go.Proofs.YtifcganfcjildaaGreatDoor.E
open Go Go.RowKit
set_option linter.unusedVariables false
set_option linter.unusedSimpArgs false
set_option linter.unnecessarySimpa false
theorem run_shC : pureB X0 1000000 85 shC = true := by kernel_rfl
theorem ok_shC : PureOk Tryz.prog 85 shC := pure_of_run X0_ok mixed_X run_shC
end Go.Proofs.YtifcganfcjildaaGreatDoor.E

/- An event's shape, run. -/
namespace Go.Proofs.YtifcganfcjildaaGreatDoor.E
open Go Go.RowKit
set_option linter.unusedVariables false
set_option linter.unusedSimpArgs false
set_option linter.unnecessarySimpa false
theorem run_shJ : pureB X0 1000000 85 shJ = true := by kernel_rfl
theorem ok_shJ : PureOk Tryz.prog 85 shJ := pure_of_run X0_ok mixed_X run_shJ
end Go.Proofs.YtifcganfcjildaaGreatDoor.E

/- An event's shape, run. -/
namespace Go.Proofs.YtifcganfcjildaaGreatDoor.E
open Go Go.RowKit
set_option linter.unusedVariables false
set_option linter.unusedSimpArgs false
set_option linter.unnecessarySimpa false
theorem run_shM : pureB X0 1000000 85 shM = true := by kernel_rfl
theorem ok_shM : PureOk Tryz.prog 85 shM := pure_of_run X0_ok mixed_X run_shM
end Go.Proofs.YtifcganfcjildaaGreatDoor.E

/- The machine over names, with what is known of events' shapes. -/
namespace Go.Proofs.YtifcganfcjildaaGreatDoor.E
open Go Go.RowKit
set_option linter.unusedVariables false
set_option linter.unusedSimpArgs false
set_option linter.unnecessarySimpa false
noncomputable section
def tblSh : List Ent := [shC, shJ, shM]
def sumX (g : FuncId) : Option (List AV → Fr AV) := match Nat.beq g 85 with
  | true => some (memoA tblSh)
  | false => none
def X1 : Ctx := ⟨Tryz.prog, extX, sumX⟩
theorem tblSh_ok : ∀ e ∈ tblSh, PureOk Tryz.prog 85 e := by
  intro e he
  unfold tblSh at he
  simp only [List.mem_cons, List.not_mem_nil, or_false] at he
  rcases he with rfl | rfl | rfl
  · exact ok_shC
  · exact ok_shJ
  · exact ok_shM
theorem X1_ok (n0 : Nat) (w0 : World) : XOk X1 n0 w0 := ⟨num_X, fun g e h args v s s' hr lm φ w L hR hm hl => ext_X h args v s s' hr n0 w0 lm φ w L hR hm hl, fun g e h args v s s' hr lm φ w L hR hm hl c cs => by
  have h' : sumX g = some e := h
  unfold sumX at h'
  split at h'
  · next hb =>
    have := Nat.eq_of_beq_eq_true hb
    subst this
    obtain rfl := Option.some.inj h'
    exact memoA_sound tblSh_ok hr hR hl c cs
  · cases h'⟩
end
end Go.Proofs.YtifcganfcjildaaGreatDoor.E

/- The document's measure of an event, run. -/
namespace Go.Proofs.YtifcganfcjildaaGreatDoor.E
open Go Go.RowKit
set_option linter.unusedVariables false
set_option linter.unusedSimpArgs false
set_option linter.unnecessarySimpa false
noncomputable def fitC : Ent := ⟨[evC], cellsC, .bool true⟩
theorem run_fitC : pureB X0 1000000 291 fitC = true := by kernel_rfl
theorem ok_fitC : PureOk Tryz.prog 291 fitC := pure_of_run X0_ok mixed_X run_fitC
end Go.Proofs.YtifcganfcjildaaGreatDoor.E

/- The document's measure of an event, run. -/
namespace Go.Proofs.YtifcganfcjildaaGreatDoor.E
open Go Go.RowKit
set_option linter.unusedVariables false
set_option linter.unusedSimpArgs false
set_option linter.unnecessarySimpa false
noncomputable def fitJ : Ent := ⟨[evJ], cellsJ, .bool true⟩
theorem run_fitJ : pureB X0 1000000 291 fitJ = true := by kernel_rfl
theorem ok_fitJ : PureOk Tryz.prog 291 fitJ := pure_of_run X0_ok mixed_X run_fitJ
end Go.Proofs.YtifcganfcjildaaGreatDoor.E

