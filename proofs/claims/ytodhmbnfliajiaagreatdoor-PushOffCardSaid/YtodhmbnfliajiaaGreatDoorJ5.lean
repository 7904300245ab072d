/- Merged out of: OpensP, PureWord, PureMembers, HandRefHolds, ShelfX. -/
import Derived.Test.YtodhmbnfliajiaaGreatDoorOpensZ
import Derived.Test.YtodhmbnfliajiaaGreatDoorJ11
import Derived.Test.YtodhmbnfliajiaaGreatDoorQx0
import Derived.Lib.Bytealg
import Derived.Test.YtodhmbnfliajiaaGreatDoorHandWord
import Derived.Test.YtodhmbnfliajiaaGreatDoorJ10
import Derived.Test.YtodhmbnfliajiaaGreatDoorJ7
import Derived.Test.YtodhmbnfliajiaaGreatDoorJ9
import Derived.Test.YtodhmbnfliajiaaGreatDoorJ12
import Derived.Test.YtodhmbnfliajiaaGreatDoorHandField
import Derived.Test.YtodhmbnfliajiaaGreatDoorJ6
import Derived.WalkKit
import Derived.WalkSpells
import Derived.WalkSmall
import Derived.Deep.LoopGhost
import Derived.Lib.Hide
import Derived.BigQuiet
import Derived.Deep.QuietTactic
import Derived.Test.YtodhmbnfliajiaaGreatDoorShelf
import Derived.Test.YtodhmbnfliajiaaGreatDoorHandHolds
import Derived.Shelf.SlSortCmp.Insertion
import Derived.Shelf.SlicesQ.IndexFunc
import Derived.Ground.SlsfProg
import Derived.Ground.SlgfProg
import Derived.Test.YtodhmbnfliajiaaGreatDoorProg
/- OpensP: a text of this claim's proof, as printed or written, without what the claim does not use. -/
namespace Go.Proofs.YtodhmbnfliajiaaGreatDoor.OpensP
open Go.RowKit Go.Proofs.YtodhmbnfliajiaaGreatDoorW.PrintWords Go.Proofs.YtodhmbnfliajiaaGreatDoor.OpensZ Go.Proofs.YtodhmbnfliajiaaGreatDoor.Q
theorem strs (fuel : Nat) : AtZ Tryz.prog 24 (Kd.slice 9 Kd.string) (fun _ => True) fuel := by
  cases fuel with
  | zero => exact zero
  | succ m => exact mono_wf (slice Tryz.underlying24 (by kernel_rfl) (string Tryz.underlying9)) (fun _ _ => trivial)
theorem sig (fuel : Nat) : AtZ Tryz.prog 69 k69 (fun _ => True) fuel := by
  cases fuel with
  | zero => exact zero
  | succ m => exact mono_wf (struct Tryz.underlying69 (by kernel_rfl) (fields_cons (string Tryz.underlying9) (by kernel_rfl) (fields_one (string Tryz.underlying9) (by kernel_rfl))) (fun x : S69 => (x.f0, x.f1)) (fun y => ⟨y.1, y.2⟩) (fun _ => rfl)) (fun _ _ => trivial)
theorem sigs (fuel : Nat) : AtZ Tryz.prog 28 (Kd.slice 69 k69) (fun _ => True) fuel := by
  cases fuel with
  | zero => exact zero
  | succ m => exact mono_wf (slice Tryz.underlying28 (by kernel_rfl) (sig m)) (fun _ _ => trivial)
structure EvNear (x : S30) : Prop where
  room : x.f0.size ≤ 140737488351232
  type : x.f1.size ≤ 140737488351232
  sender : x.f2.size ≤ 140737488351232
  key : x.f4.size ≤ 140737488351232
  hash : x.f10.size ≤ 140737488351232
theorem event (fuel : Nat) : AtZ Tryz.prog 30 k30 EvNear fuel := by
  cases fuel with
  | zero => exact zero
  | succ m =>
    exact mono_wf (struct Tryz.underlying30 (by kernel_rfl) (fields_cons (string Tryz.underlying9) (by kernel_rfl) (fields_cons (string Tryz.underlying9) (by kernel_rfl) (fields_cons (string Tryz.underlying9) (by kernel_rfl) (fields_cons (bool Tryz.underlying4) (by kernel_rfl) (fields_cons (string Tryz.underlying9) (by kernel_rfl) (fields_cons (of_At (OpensJ.opens m)) (by kernel_rfl) (fields_cons (strs m) (by kernel_rfl) (fields_cons (strs m) (by kernel_rfl) (fields_cons (int Tryz.underlying2) (by kernel_rfl) (fields_cons (int Tryz.underlying2) (by kernel_rfl) (fields_cons (string Tryz.underlying9) (by kernel_rfl) (fields_one (sigs m) (by kernel_rfl))))))))))))) (fun x : S30 => (x.f0, x.f1, x.f2, x.f3, x.f4, x.f5, x.f6, x.f7, x.f8, x.f9, x.f10, x.f11)) (fun y => ⟨y.1, y.2.1, y.2.2.1, y.2.2.2.1, y.2.2.2.2.1, y.2.2.2.2.2.1, y.2.2.2.2.2.2.1, y.2.2.2.2.2.2.2.1, y.2.2.2.2.2.2.2.2.1, y.2.2.2.2.2.2.2.2.2.1, y.2.2.2.2.2.2.2.2.2.2.1, y.2.2.2.2.2.2.2.2.2.2.2⟩) (fun _ => rfl))
      (fun x h => ⟨h.1, h.2.1, h.2.2.1, h.2.2.2.2.1, h.2.2.2.2.2.2.2.2.2.2.1⟩)
theorem scene (fuel : Nat) : AtZ Tryz.prog 32 k32 (fun s => EvNear s.f0) fuel := by
  cases fuel with
  | zero => exact zero
  | succ m =>
    exact mono_wf (struct Tryz.underlying32 (by kernel_rfl) (fields_cons (event m) (by kernel_rfl) (fields_cons (string Tryz.underlying9) (by kernel_rfl) (fields_cons (string Tryz.underlying9) (by kernel_rfl) (fields_cons (int Tryz.underlying2) (by kernel_rfl) (fields_one (int Tryz.underlying2) (by kernel_rfl)))))) (fun x : S32 => (x.f0, x.f1, x.f2, x.f3, x.f4)) (fun y => ⟨y.1, y.2.1, y.2.2.1, y.2.2.2.1, y.2.2.2.2⟩) (fun _ => rfl))
      (fun x h => h.1)
theorem cond (fuel : Nat) : AtZ Tryz.prog 23 k23 (fun _ => True) fuel := by
  cases fuel with
  | zero => exact zero
  | succ m =>
    exact mono_wf (struct Tryz.underlying23 (by kernel_rfl) (fields_cons (string Tryz.underlying9) (by kernel_rfl) (fields_cons (string Tryz.underlying9) (by kernel_rfl) (fields_cons (string Tryz.underlying9) (by kernel_rfl) (fields_one (int Tryz.underlying2) (by kernel_rfl))))) (fun x : S23 => (x.f0, x.f1, x.f2, x.f3)) (fun y => ⟨y.1, y.2.1, y.2.2.1, y.2.2.2⟩) (fun _ => rfl))
      (fun x h => trivial)
theorem conds (fuel : Nat) : AtZ Tryz.prog 45 (Kd.slice 23 k23) (fun _ => True) fuel := by
  cases fuel with
  | zero => exact zero
  | succ m => exact mono_wf (slice Tryz.underlying45 (by kernel_rfl) (cond m)) (fun _ _ => trivial)
theorem rule (fuel : Nat) : AtZ Tryz.prog 47 k47 (fun _ => True) fuel := by
  cases fuel with
  | zero => exact zero
  | succ m =>
    exact mono_wf (struct Tryz.underlying47 (by kernel_rfl) (fields_cons (int Tryz.underlying3) (by kernel_rfl) (fields_cons (string Tryz.underlying9) (by kernel_rfl) (fields_cons (bool Tryz.underlying4) (by kernel_rfl) (fields_cons (conds m) (by kernel_rfl) (fields_cons (bool Tryz.underlying4) (by kernel_rfl) (fields_one (bool Tryz.underlying4) (by kernel_rfl))))))) (fun x : S47 => (x.f0, x.f1, x.f2, x.f3, x.f4, x.f5)) (fun y => ⟨y.1, y.2.1, y.2.2.1, y.2.2.2.1, y.2.2.2.2.1, y.2.2.2.2.2⟩) (fun _ => rfl))
      (fun x h => trivial)
theorem rules (fuel : Nat) : AtZ Tryz.prog 37 (Kd.slice 47 k47) (fun _ => True) fuel := by
  cases fuel with
  | zero => exact zero
  | succ m => exact mono_wf (slice Tryz.underlying37 (by kernel_rfl) (rule m)) (fun _ _ => trivial)
end Go.Proofs.YtodhmbnfliajiaaGreatDoor.OpensP

/- PureWord: a text of this claim's proof, as printed or written, without what the claim does not use. -/
namespace Go.Proofs.YtodhmbnfliajiaaGreatDoor.Q
open Go.RowKit Go.Proofs.YtodhmbnfliajiaaGreatDoorW.PrintWords Go.Proofs.YtodhmbnfliajiaaGreatDoorW.PrintLast Go.Proofs.YtodhmbnfliajiaaGreatDoorW.PrintMore
section
variable (q l : List ByteArray) (hq : q.length ≤ 1000000000) (hl : l.length ≤ 1000000000) (W : List Bool) (hW : ∀ i (h : i < l.length), agoraref23_word.f l[i] = some (W.getD i false))
include hq hl hW
end
end Go.Proofs.YtodhmbnfliajiaaGreatDoor.Q

/- PureMembers: a text of this claim's proof, as printed or written, without what the claim does not use. -/
namespace Go.Proofs.YtodhmbnfliajiaaGreatDoor.Q
open Go.RowKit Go.Proofs.YtodhmbnfliajiaaGreatDoorW.PrintWords Go.Proofs.YtodhmbnfliajiaaGreatDoorW.PrintLast Go.Proofs.YtodhmbnfliajiaaGreatDoorW.PrintMore
set_option linter.unusedSimpArgs false
end Go.Proofs.YtodhmbnfliajiaaGreatDoor.Q

/- HandRefHolds: a text of this claim's proof, as printed or written, without what the claim does not use. -/
namespace Go.Proofs.YtodhmbnfliajiaaGreatDoor.Q
open Go.RowKit Go.Shelf Go.Proofs.YtodhmbnfliajiaaGreatDoorW.PrintWords Go.Proofs.YtodhmbnfliajiaaGreatDoorW.PrintLast Go.Proofs.YtodhmbnfliajiaaGreatDoorW.PrintMore
set_option linter.unusedVariables false
end Go.Proofs.YtodhmbnfliajiaaGreatDoor.Q

/- ShelfX: a text of this claim's proof, as printed or written, without what the claim does not use. -/
namespace Go.Proofs
open Go.Shelf
def Tryz.insL_ren : Go.Shelf.Ren := ⟨fun | 20 => 85 | n => n, fun | 24 => 3 | 22 => 58 | 3 => 3 | 25 => 60 | 4 => 4 | 0 => 0 | n => n, fun | n => n⟩
theorem Tryz.insL : Go.Proofs.SlLaysF.n20 Tryz.prog Tryz.insL_ren := {
  mixed := by kernel_rfl
  f20 := ⟨Tryz.f85.name, by decide, Tryz.func85.trans (congrArg some (by kernel_rfl))⟩
  t0 := Tryz.underlying0
  a0 := Tryz.isAgg0
  z0 := Tryz.sizeOf0
  v0 := Tryz.zeroValue0
  t3 := Tryz.underlying3
  a3 := Tryz.isAgg3
  z3 := Tryz.sizeOf3
  v3 := Tryz.zeroValue3
  t4 := Tryz.underlying4
  a4 := Tryz.isAgg4
  z4 := Tryz.sizeOf4
  v4 := Tryz.zeroValue4
  t22 := Tryz.underlying58
  a22 := Tryz.isAgg58
  z22 := Tryz.sizeOf58
  v22 := Tryz.zeroValue58
  a24 := Tryz.isAgg3
  z24 := Tryz.sizeOf3
  t25 := Tryz.underlying60
  a25 := Tryz.isAgg60
  z25 := Tryz.sizeOf60
  v25 := Tryz.zeroValue60 }
end Go.Proofs

