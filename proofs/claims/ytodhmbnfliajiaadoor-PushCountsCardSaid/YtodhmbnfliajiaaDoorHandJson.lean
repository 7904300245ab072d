/- HandJson: a text of this claim's proof, as printed or written, without what the claim does not use. -/
import Derived.WalkKit
import Derived.WalkSpells
import Derived.Deep.LoopGhost
import Derived.Lib.Hide
import Derived.BigQuiet
import Derived.Deep.QuietTactic
import Derived.Test.YtodhmbnfliajiaaDoorShelf
import Derived.Test.YtodhmbnfliajiaaDoorQx0
import Derived.Test.YtodhmbnfliajiaaDoorQx4
namespace Go.Proofs.YtodhmbnfliajiaaDoor.Q
open Go.RowKit Go.Shelf Go.Proofs.YtodhmbnfliajiaaDoorW.PrintWords Go.Proofs.YtodhmbnfliajiaaDoorW.PrintLast
abbrev JS := S26
def aclIdx : List ByteArray → ByteArray → Int → Int
  | [], _, _ => -1
  | a :: l, x, i => if a.toList = x.toList then i else aclIdx l x (i + 1)
def aclValue (kind : Int) (keys : List ByteArray) (list : List JS) (key : ByteArray) : Option JS :=
  if kind ≠ 5 then none else if aclIdx keys key 0 < 0 then none else if (list.length : Int) ≤ aclIdx keys key 0 then none else some (rd_T26 list (aclIdx keys key 0))
theorem aclIdx_l0 (l : List ByteArray) (hl : l.length ≤ 9223372036854775806) (x : ByteArray) : ∀ (m k i : Nat), m = l.length - i → i ≤ l.length → m < k → slices_Index_string_string.l0 k l x (l.length : Int) (i : Int) = some (aclIdx (l.drop i) x (i : Int))
  | 0, k, i, hm, hi, hk => by
    obtain ⟨k, rfl⟩ : ∃ j, k = j + 1 := ⟨k - 1, by omega⟩
    have : i = l.length := by omega
    subst this
    simp [slices_Index_string_string.l0, aclIdx]
  | m + 1, k, i, hm, hi, hk => by
    obtain ⟨k, rfl⟩ : ∃ j, k = j + 1 := ⟨k - 1, by omega⟩
    have hlt : i < l.length := by omega
    have ih := aclIdx_l0 l hl x m k (i + 1) (by omega) (by omega) (by omega)
    rw [List.drop_eq_getElem_cons hlt]
    have hrd : rdOf ByteArray.empty l (i : Int) = l[i] := by simp [rdOf, hlt]
    have hw : wrap64 ((i : Int) + 1) = ((i + 1 : Nat) : Int) := by unfold wrap64; omega
    simp only [slices_Index_string_string.l0, aclIdx]
    rw [if_pos (by omega), if_pos (by omega), if_pos (by omega), hrd, hw, ih]
    by_cases h : l[i].toList = x.toList
    · rw [if_pos h.symm, if_pos h]
    · rw [if_neg (fun e => h e.symm), if_neg h]; rfl
theorem aclIdx_ge (l : List ByteArray) (x : ByteArray) : ∀ i, -1 ≤ i → -1 ≤ aclIdx l x i ∧ aclIdx l x i < i + l.length + 1 := by
  induction l with
  | nil => intro i hi; simp [aclIdx]; omega
  | cons a l ih =>
    intro i hi
    simp only [aclIdx, List.length_cons]
    split
    · omega
    · have := ih (i + 1) (by omega); omega
theorem acl_index (l : List ByteArray) (hl : l.length ≤ 9223372036854775806) (A : Option Addr) (c : Nat) (x : ByteArray) (w : World) (hr : Kd.C Kd.string w A l.length l) (hc : l.length ≤ c) :
    Calls Tryd.prog 26 #[.slice A l.length c, .string x] w fun e w' => e = .returned (.int .i64 (aclIdx l x 0)) ∧ Drawn0 w w' := by
  refine slices_Index_string_string.calls (l.length + 1) A c l x _ w hr hc ?_
  unfold slices_Index_string_string.f
  have := aclIdx_l0 l hl x l.length (l.length + 1) 0 (by omega) (by omega) (by omega)
  simpa using this
def put5 (W : World) (g : Nat) (v0 v1 v2 v3 v4 : Value) : World := ((((W.setCell ⟨g, 0, none⟩ v0).setCell ⟨g, 1, none⟩ v1).setCell ⟨g, 2, none⟩ v2).setCell ⟨g, 3, none⟩ v3).setCell ⟨g, 4, none⟩ v4
theorem put5_heap {W : World} {g : Nat} {a0 a1 a2 a3 a4 : Value} {t : TypeId} (h : W.heap[g]? = some (.cells #[a0, a1, a2, a3, a4] t (0, 0))) (v0 v1 v2 v3 v4 : Value) : (put5 W g v0 v1 v2 v3 v4).heap[g]? = some (.cells #[v0, v1, v2, v3, v4] t (0, 0)) := by
  unfold put5
  refine blk_put (cs := #[v0, v1, v2, v3, a4]) ?_ 4 _ rfl
  refine blk_put (cs := #[v0, v1, v2, a3, a4]) ?_ 3 _ rfl
  refine blk_put (cs := #[v0, v1, a2, a3, a4]) ?_ 2 _ rfl
  refine blk_put (cs := #[v0, a1, a2, a3, a4]) ?_ 1 _ rfl
  exact blk_put (cs := #[a0, a1, a2, a3, a4]) h 0 _ rfl
theorem put5_below {n : Nat} {w W : World} {g : Nat} (h : Below n w W) (hg : n ≤ g) (v0 v1 v2 v3 v4 : Value) : Below n w (put5 W g v0 v1 v2 v3 v4) := by
  unfold put5
  exact ((((h.setCell hg _).setCell hg _).setCell hg _).setCell hg _).setCell hg _
end Go.Proofs.YtodhmbnfliajiaaDoor.Q
