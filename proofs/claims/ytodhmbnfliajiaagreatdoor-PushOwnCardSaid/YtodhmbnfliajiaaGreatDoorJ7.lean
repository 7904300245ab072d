/- Merged out of: PureGet, PureWord, PureMembers, HandRefHolds. -/
import Derived.Test.YtodhmbnfliajiaaGreatDoorJ6
import Derived.Test.YtodhmbnfliajiaaGreatDoorQx0
import Derived.Test.YtodhmbnfliajiaaGreatDoorQx3
import Derived.Lib.Bytealg
import Derived.Test.YtodhmbnfliajiaaGreatDoorHandWord
import Derived.Test.YtodhmbnfliajiaaGreatDoorJ13
import Derived.Test.YtodhmbnfliajiaaGreatDoorJ9
import Derived.Test.YtodhmbnfliajiaaGreatDoorJ8
import Derived.Test.YtodhmbnfliajiaaGreatDoorJ5
import Derived.Test.YtodhmbnfliajiaaGreatDoorHandField
import Derived.Test.YtodhmbnfliajiaaGreatDoorQx8
import Derived.WalkKit
import Derived.WalkSpells
import Derived.WalkSmall
import Derived.Deep.LoopGhost
import Derived.Lib.Hide
import Derived.BigQuiet
import Derived.Deep.QuietTactic
import Derived.Test.YtodhmbnfliajiaaGreatDoorShelf
import Derived.Test.YtodhmbnfliajiaaGreatDoorHandHolds
/- PureGet: a text of this claim's proof, as printed or written, without what the claim does not use. -/
namespace Go.Proofs.YtodhmbnfliajiaaGreatDoor.Q
open Go.RowKit Go.Proofs.YtodhmbnfliajiaaGreatDoorW.PrintWords Go.Proofs.YtodhmbnfliajiaaGreatDoorW.PrintLast Go.Proofs.YtodhmbnfliajiaaGreatDoorW.PrintMore
theorem nat_succ_wrap (i : Nat) (h : i ≤ 1000000000000) : wrap64 ((i : Int) + 1) = ((i + 1 : Nat) : Int) := by unfold wrap64; omega
def getOf (o : Option JS) : Int × Int × ByteArray × List ByteArray × List JS × Bool :=
  match o with
  | none => (0, 0, ⟨#[]⟩, [], [], false)
  | some x => (x.f0, x.f1, x.f2, x.f3, x.f4, true)
theorem aclIdx_lo (x : ByteArray) : ∀ (l : List ByteArray) (i : Int), 0 ≤ i → aclIdx l x i = -1 ∨ i ≤ aclIdx l x i
  | [], _, _ => Or.inl rfl
  | a :: l, i, h => by
    unfold aclIdx
    by_cases c : a.toList = x.toList
    · rw [if_pos c]; exact Or.inr (Int.le_refl _)
    · rw [if_neg c]
      rcases aclIdx_lo x l (i + 1) (by omega) with h | h
      · exact Or.inl h
      · exact Or.inr (by omega)
def valFrom (keys : List ByteArray) (list : List JS) (key : ByteArray) (i : Nat) : Option JS :=
  if aclIdx (keys.drop i) key (i : Int) < 0 then none else if (list.length : Int) ≤ aclIdx (keys.drop i) key (i : Int) then none else some (rd_T27 list (aclIdx (keys.drop i) key (i : Int)))
theorem get_l0 (keys : List ByteArray) (hk : keys.length ≤ 1000000000) (list : List JS) (key : ByteArray) (kd n : Int) (t : ByteArray) : ∀ (m i K : Nat), m = keys.length - i → i ≤ keys.length → 2 * m + 1 < K →
    agoraref01_Get.l0 K key (i : Int) kd n t keys list = some (getOf (valFrom keys list key i))
  | 0, i, K, hm, hi, hK => by
    obtain ⟨K, rfl⟩ : ∃ j, K = j + 2 := ⟨K - 2, by omega⟩
    have : i = keys.length := by omega
    subst this
    unfold agoraref01_Get.l0
    rw [if_neg (by omega), agoraref01_Get.j1, if_neg (by decide)]
    unfold valFrom
    rw [List.drop_length]; rfl
  | m + 1, i, K, hm, hi, hK => by
    obtain ⟨K, rfl⟩ : ∃ j, K = j + 2 := ⟨K - 2, by omega⟩
    have hlt : i < keys.length := by omega
    have hrd : rdOf ByteArray.empty keys (i : Int) = keys[i] := by simp [rdOf, hlt]
    have ih := get_l0 keys hk list key kd n t m (i + 1) K (by omega) (by omega) (by omega)
    unfold agoraref01_Get.l0
    rw [if_pos (by omega), agoraref01_Get.j1]
    by_cases h1 : i < list.length
    · rw [if_pos (decide_eq_true (by omega)), if_pos (by omega), if_pos (by omega), hrd, nat_succ_wrap i (by omega), ih]
      unfold valFrom
      rw [List.drop_eq_getElem_cons hlt, aclIdx]
      by_cases h2 : keys[i].toList = key.toList
      · rw [if_pos h2, if_pos (by omega), if_pos h2, if_neg (by omega), if_neg (by omega)]; rfl
      · rw [if_neg h2, if_neg h2]; rfl
    · rw [if_neg (by rw [decide_eq_false (by omega)]; decide)]
      unfold valFrom
      rcases aclIdx_lo key (keys.drop i) (i : Int) (by omega) with h | h
      · rw [if_pos (by omega)]; rfl
      · rw [if_neg (by omega), if_pos (by omega)]; rfl
theorem get_f (kd n : Int) (t : ByteArray) (keys : List ByteArray) (hk : keys.length ≤ 1000000000) (list : List JS) (key : ByteArray) (K : Nat) (hK : 2 * keys.length + 1 < K) : agoraref01_Get.f K kd n t keys list key = some (getOf (aclValue kd keys list key)) := by
  unfold agoraref01_Get.f aclValue
  by_cases h : kd = 5
  · rw [if_pos h, if_neg (by omega)]
    have := get_l0 keys hk list key kd n t keys.length 0 K (by omega) (by omega) hK
    exact this
  · rw [if_neg h, if_pos h]; rfl
end Go.Proofs.YtodhmbnfliajiaaGreatDoor.Q

/- PureWord: a text of this claim's proof, as printed or written, without what the claim does not use. -/
namespace Go.Proofs.YtodhmbnfliajiaaGreatDoor.Q
open Go.RowKit Go.Proofs.YtodhmbnfliajiaaGreatDoorW.PrintWords Go.Proofs.YtodhmbnfliajiaaGreatDoorW.PrintLast Go.Proofs.YtodhmbnfliajiaaGreatDoorW.PrintMore
section
variable (q l : List ByteArray) (hq : q.length ≤ 1000000000) (hl : l.length ≤ 1000000000) (W : List Bool) (hW : ∀ i (h : i < l.length), agoraref23_word.f l[i] = some (W.getD i false))
include hq hl hW
end
end Go.Proofs.YtodhmbnfliajiaaGreatDoor.Q

/- PureMembers: a text of this claim's proof, as printed or written, without what the claim does not use. -/
namespace Go.Proofs.YtodhmbnfliajiaaGreatDoor.Q
open Go.RowKit Go.Proofs.YtodhmbnfliajiaaGreatDoorW.PrintWords Go.Proofs.YtodhmbnfliajiaaGreatDoorW.PrintLast Go.Proofs.YtodhmbnfliajiaaGreatDoorW.PrintMore
set_option linter.unusedSimpArgs false
end Go.Proofs.YtodhmbnfliajiaaGreatDoor.Q

/- HandRefHolds: a text of this claim's proof, as printed or written, without what the claim does not use. -/
namespace Go.Proofs.YtodhmbnfliajiaaGreatDoor.Q
open Go.RowKit Go.Shelf Go.Proofs.YtodhmbnfliajiaaGreatDoorW.PrintWords Go.Proofs.YtodhmbnfliajiaaGreatDoorW.PrintLast Go.Proofs.YtodhmbnfliajiaaGreatDoorW.PrintMore
set_option linter.unusedVariables false
structure EvV.OkR (x : EvV) (w : World) : Prop where
  ok : x.Ok w
  k10 : Kd.C Kd.string w x.A10 x.prev.length x.prev
  l10 : x.prev.length ≤ x.c10
  k11 : Kd.C Kd.string w x.A11 x.auth.length x.auth
  l11 : x.auth.length ≤ x.c11
  k15 : Kd.C k69 w x.A15 x.sigs.length x.sigs
  l15 : x.sigs.length ≤ x.c15
theorem EvV.OkR.below {x : EvV} {w W : World} (h : x.OkR w) (hb : Below w.heap.size w W) : x.OkR W := ⟨h.ok.below hb, Kd.C_below h.k10 hb, h.l10, Kd.C_below h.k11 hb, h.l11, Kd.C_below h.k15 hb, h.l15⟩
end Go.Proofs.YtodhmbnfliajiaaGreatDoor.Q

