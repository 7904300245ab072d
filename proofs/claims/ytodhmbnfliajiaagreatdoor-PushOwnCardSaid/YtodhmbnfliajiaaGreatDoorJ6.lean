/- Merged out of: OpensJ, HandJson, PureFold. -/
import Derived.Test.YtodhmbnfliajiaaGreatDoorOpens
import Derived.Test.YtodhmbnfliajiaaGreatDoorQx0
import Derived.WalkKit
import Derived.WalkSpells
import Derived.Deep.LoopGhost
import Derived.Lib.Hide
import Derived.BigQuiet
import Derived.Deep.QuietTactic
import Derived.Test.YtodhmbnfliajiaaGreatDoorShelf
import Derived.Test.YtodhmbnfliajiaaGreatDoorQx7
import Derived.Test.YtodhmbnfliajiaaGreatDoorJ8
import Derived.Test.YtodhmbnfliajiaaGreatDoorJ9
/- OpensJ: a text of this claim's proof, as printed or written, without what the claim does not use. -/
namespace Go.Proofs.YtodhmbnfliajiaaGreatDoor.OpensJ
open Go.RowKit Go.Proofs.YtodhmbnfliajiaaGreatDoorW.PrintWords Go.Proofs.YtodhmbnfliajiaaGreatDoor.Opens Go.Proofs.YtodhmbnfliajiaaGreatDoor.Q
theorem step (fuel : Nat) (d : Kd S27) (hd : d.sz = 5) (h : ∀ m, m ≤ fuel → At Tryz.prog 27 d (fun _ => True) m) : At Tryz.prog 27 (F27 d) (fun _ => True) (fuel + 1) := by
  have hs1 : At Tryz.prog 24 (Kd.slice 9 Kd.string) (fun _ => True) fuel := by
    cases fuel with
    | zero => exact zero
    | succ m => exact mono_wf (slice Tryz.underlying24 (by kernel_rfl) (string Tryz.underlying9)) (fun _ _ => trivial)
  have hs2 : At Tryz.prog 25 (Kd.slice 27 d) (fun _ => True) fuel := by
    cases fuel with
    | zero => exact zero
    | succ m => exact mono_wf (slice Tryz.underlying25 (by rw [hd]; kernel_rfl) (h m (by omega))) (fun _ _ => trivial)
  exact mono_wf (struct Tryz.underlying27 (by kernel_rfl) (fields_cons (int Tryz.underlying3) (by kernel_rfl) (fields_cons (int Tryz.underlying2) (by kernel_rfl) (fields_cons (string Tryz.underlying9) (by kernel_rfl) (fields_cons hs1 (by kernel_rfl) (fields_one hs2 (by kernel_rfl)))))) (fun x : S27 => (x.f0, x.f1, x.f2, x.f3, x.f4)) (fun y => ⟨y.1, y.2.1, y.2.2.1, y.2.2.2.1, y.2.2.2.2⟩) (fun _ => rfl)) (fun _ _ => trivial)
theorem upto : ∀ (fuel k : Nat), fuel ≤ k → At Tryz.prog 27 (Kd.upto F27 5 [9, 27] k) (fun _ => True) fuel
  | 0, _, _ => zero
  | fuel + 1, k, h => by
    obtain ⟨k, rfl⟩ : ∃ j, k = j + 1 := ⟨k - 1, by omega⟩
    exact step fuel _ (sz27 k) (fun m hm => upto m k (by omega))
theorem opens (fuel : Nat) : At Tryz.prog 27 k27 (fun _ => True) fuel := fix_ (fun fuel => upto fuel fuel (Nat.le_refl _)) fuel
end Go.Proofs.YtodhmbnfliajiaaGreatDoor.OpensJ

/- HandJson: a text of this claim's proof, as printed or written, without what the claim does not use. -/
namespace Go.Proofs.YtodhmbnfliajiaaGreatDoor.Q
open Go.RowKit Go.Shelf Go.Proofs.YtodhmbnfliajiaaGreatDoorW.PrintWords Go.Proofs.YtodhmbnfliajiaaGreatDoorW.PrintLast
abbrev JS := S27
def aclIdx : List ByteArray → ByteArray → Int → Int
  | [], _, _ => -1
  | a :: l, x, i => if a.toList = x.toList then i else aclIdx l x (i + 1)
def aclValue (kind : Int) (keys : List ByteArray) (list : List JS) (key : ByteArray) : Option JS :=
  if kind ≠ 5 then none else if aclIdx keys key 0 < 0 then none else if (list.length : Int) ≤ aclIdx keys key 0 then none else some (rd_T27 list (aclIdx keys key 0))
theorem aclIdx_l0 (l : List ByteArray) (hl : l.length ≤ 9223372036854775806) (x : ByteArray) : ∀ (m k i : Nat), m = l.length - i → i ≤ l.length → m < k → slices_Index_string_string.l0 k l x (l.length : Int) (i : Int) = some (aclIdx (l.drop i) x (i : Int))
  | 0, k, i, hm, hi, hk => by
    obtain ⟨k, rfl⟩ : ∃ j, k = j + 1 := ⟨k - 1, by omega⟩
    have : i = l.length := by omega
    subst this
    simp [slices_Index_string_string.l0, aclIdx]
  | m + 1, k, i, hm, hi, hk => by
    obtain ⟨k, rfl⟩ : ∃ j, k = j + 1 := ⟨k - 1, by omega⟩
    have hlt : i < l.length := by omega
    have ih := aclIdx_l0 l hl x m k (i + 1) (by omega) (by omega) (by omega)
    rw [List.drop_eq_getElem_cons hlt]
    have hrd : rdOf ByteArray.empty l (i : Int) = l[i] := by simp [rdOf, hlt]
    have hw : wrap64 ((i : Int) + 1) = ((i + 1 : Nat) : Int) := by unfold wrap64; omega
    simp only [slices_Index_string_string.l0, aclIdx]
    rw [if_pos (by omega), if_pos (by omega), if_pos (by omega), hrd, hw, ih]
    by_cases h : l[i].toList = x.toList
    · rw [if_pos h.symm, if_pos h]
    · rw [if_neg (fun e => h e.symm), if_neg h]; rfl
theorem aclIdx_ge (l : List ByteArray) (x : ByteArray) : ∀ i, -1 ≤ i → -1 ≤ aclIdx l x i ∧ aclIdx l x i < i + l.length + 1 := by
  induction l with
  | nil => intro i hi; simp [aclIdx]; omega
  | cons a l ih =>
    intro i hi
    simp only [aclIdx, List.length_cons]
    split
    · omega
    · have := ih (i + 1) (by omega); omega
theorem acl_index (l : List ByteArray) (hl : l.length ≤ 9223372036854775806) (A : Option Addr) (c : Nat) (x : ByteArray) (w : World) (hr : Kd.C Kd.string w A l.length l) (hc : l.length ≤ c) :
    Calls Tryz.prog 50 #[.slice A l.length c, .string x] w fun e w' => e = .returned (.int .i64 (aclIdx l x 0)) ∧ Drawn0 w w' := by
  refine slices_Index_string_string.calls (l.length + 1) A c l x _ w hr hc ?_
  unfold slices_Index_string_string.f
  have := aclIdx_l0 l hl x l.length (l.length + 1) 0 (by omega) (by omega) (by omega)
  simpa using this
def put5 (W : World) (g : Nat) (v0 v1 v2 v3 v4 : Value) : World := ((((W.setCell ⟨g, 0, none⟩ v0).setCell ⟨g, 1, none⟩ v1).setCell ⟨g, 2, none⟩ v2).setCell ⟨g, 3, none⟩ v3).setCell ⟨g, 4, none⟩ v4
theorem put5_heap {W : World} {g : Nat} {a0 a1 a2 a3 a4 : Value} {t : TypeId} (h : W.heap[g]? = some (.cells #[a0, a1, a2, a3, a4] t (0, 0))) (v0 v1 v2 v3 v4 : Value) : (put5 W g v0 v1 v2 v3 v4).heap[g]? = some (.cells #[v0, v1, v2, v3, v4] t (0, 0)) := by
  unfold put5
  refine blk_put (cs := #[v0, v1, v2, v3, a4]) ?_ 4 _ rfl
  refine blk_put (cs := #[v0, v1, v2, a3, a4]) ?_ 3 _ rfl
  refine blk_put (cs := #[v0, v1, a2, a3, a4]) ?_ 2 _ rfl
  refine blk_put (cs := #[v0, a1, a2, a3, a4]) ?_ 1 _ rfl
  exact blk_put (cs := #[a0, a1, a2, a3, a4]) h 0 _ rfl
theorem put5_below {n : Nat} {w W : World} {g : Nat} (h : Below n w W) (hg : n ≤ g) (v0 v1 v2 v3 v4 : Value) : Below n w (put5 W g v0 v1 v2 v3 v4) := by
  unfold put5
  exact ((((h.setCell hg _).setCell hg _).setCell hg _).setCell hg _).setCell hg _
end Go.Proofs.YtodhmbnfliajiaaGreatDoor.Q

/- PureFold: a text of this claim's proof, as printed or written, without what the claim does not use. -/
namespace Go.Proofs.YtodhmbnfliajiaaGreatDoor.Q
open Go.RowKit Go.Proofs.YtodhmbnfliajiaaGreatDoorW.PrintWords Go.Proofs.YtodhmbnfliajiaaGreatDoorW.PrintLast Go.Proofs.YtodhmbnfliajiaaGreatDoorW.PrintMore
theorem Width.max {rn : Int} {d : Nat} (h : Width rn d) : mx 1 rn = (d : Int) := by
  unfold mx
  rcases h with ⟨h1, h2⟩ | ⟨h1, h2⟩
  · rw [if_neg (by omega)]; omega
  · by_cases h3 : 1 < rn
    · rw [if_pos h3]; exact h1
    · rw [if_neg h3]; omega
theorem decode_ascii (s : ByteArray) (i : Nat) (h : (s.get! i).toNat < 128) : Utf8.decode s i = ((s.get! i).toNat, 1) := by
  rw [Go.Lib.decode_at]; unfold Go.Lib.decodeN; rw [if_pos h]
def foldB (p s : ByteArray) : Bool := gM ((gletters p).map glow) ((gletters s).map glow)
theorem glob_Fold_f (p s : ByteArray) (hp : p.size ≤ 1000000000) (hs : s.size ≤ 1000000000) : ∃ K, glob_Fold.f K p s = some (foldB p s) := by
  have lp := gletters_len p
  have ls := gletters_len s
  obtain ⟨K, h⟩ := glob_match_f ((gletters p).map glow) ((gletters s).map glow) (by rw [List.length_map]; omega) (by rw [List.length_map]; omega)
  refine ⟨K, ?_⟩
  unfold glob_Fold.f
  rw [if_neg (by omega), if_neg (by omega)]
  exact h
end Go.Proofs.YtodhmbnfliajiaaGreatDoor.Q

