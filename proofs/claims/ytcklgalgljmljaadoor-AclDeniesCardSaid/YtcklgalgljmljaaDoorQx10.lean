/- Qx10: a text of this claim's proof, as printed or written, without what the claim does not use. -/
import Derived.Test.YtcklgalgljmljaaDoorQx0
namespace Go.Proofs.YtcklgalgljmljaaDoor.Q
open Go.RowKit Go.Proofs.YtcklgalgljmljaaDoorW.PrintWords Go.Proofs.YtcklgalgljmljaaDoorW.PrintLast Go.Proofs.YtcklgalgljmljaaDoorW.PrintMore
attribute [local go_sem] max2_int min2_int max_two min_two max_three min_three max_four min_four
set_option linter.unusedVariables false
set_option linter.unusedSimpArgs false
mutual
def agoraref23_match.l0 : Nat → List ByteArray → List ByteArray → List Bool → Int → Option (Bool)
  | 0, _, _, _, _ => none
  | k + 1, x0, x1, x5, x6 => if x6 < (x0.length : Int) then (if 0 ≤ (wrap64 ((x1.length : Int) + 1)) then (if (wrap64 ((x1.length : Int) + 1) : Int).toNat ≤ 281474976710656 then (agoraref23_match.l1 k x0 x1 x5 x6 0 (List.replicate (wrap64 ((x1.length : Int) + 1) : Int).toNat false)) else (none)) else (none)) else (if 0 ≤ (x1.length : Int) then (if (x1.length : Int) < (x5.length : Int) then (some (rdOf false x5 (x1.length : Int))) else (none)) else (none))
def agoraref23_match.l1 : Nat → List ByteArray → List ByteArray → List Bool → Int → Int → List Bool → Option (Bool)
  | 0, _, _, _, _, _, _ => none
  | k + 1, x0, x1, x5, x6, x8, x24 => if x8 ≤ (x1.length : Int) then (if 0 ≤ x6 then (if x6 < (x0.length : Int) then (if (rdOf ByteArray.empty x0 x6).toList = ([42] : List UInt8) then (if 0 ≤ x8 then (if x8 < (x5.length : Int) then (if rdOf false x5 x8 = true then (if x8 < (x24.length : Int) then (agoraref23_match.l1 k x0 x1 x5 x6 (wrap64 (x8 + 1)) (x24.set (x8 : Int).toNat true)) else (none)) else (if x8 > 0 then (if 0 ≤ (wrap64 (x8 - 1)) then (if (wrap64 (x8 - 1)) < (x24.length : Int) then (if x8 < (x24.length : Int) then (agoraref23_match.l1 k x0 x1 x5 x6 (wrap64 (x8 + 1)) (x24.set (x8 : Int).toNat (rdOf false x24 (wrap64 (x8 - 1))))) else (none)) else (none)) else (none)) else (if x8 < (x24.length : Int) then (agoraref23_match.l1 k x0 x1 x5 x6 (wrap64 (x8 + 1)) (x24.set (x8 : Int).toNat false)) else (none)))) else (none)) else (none)) else (if x8 > 0 then (if 0 ≤ (wrap64 (x8 - 1)) then (if (wrap64 (x8 - 1)) < (x5.length : Int) then (if rdOf false x5 (wrap64 (x8 - 1)) = true then (if (rdOf ByteArray.empty x0 x6).toList = ([63] : List UInt8) then (if 0 ≤ x8 then (if x8 < (x24.length : Int) then (agoraref23_match.l1 k x0 x1 x5 x6 (wrap64 (x8 + 1)) (x24.set (x8 : Int).toNat true)) else (none)) else (none)) else (if (wrap64 (x8 - 1)) < (x1.length : Int) then (if 0 ≤ x8 then (if x8 < (x24.length : Int) then (agoraref23_match.l1 k x0 x1 x5 x6 (wrap64 (x8 + 1)) (x24.set (x8 : Int).toNat ((rdOf ByteArray.empty x0 x6).toList == (rdOf ByteArray.empty x1 (wrap64 (x8 - 1))).toList))) else (none)) else (none)) else (none))) else (if 0 ≤ x8 then (if x8 < (x24.length : Int) then (agoraref23_match.l1 k x0 x1 x5 x6 (wrap64 (x8 + 1)) (x24.set (x8 : Int).toNat false)) else (none)) else (none))) else (none)) else (none)) else (agoraref23_match.l1 k x0 x1 x5 x6 (wrap64 (x8 + 1)) x24))) else (none)) else (none)) else (agoraref23_match.l0 k x0 x1 x24 (wrap64 (x6 + 1)))
end
def agoraref23_match.f (k : Nat) (l0 : List ByteArray) (l1 : List ByteArray) : Option (Bool) := if 0 ≤ (wrap64 ((l1.length : Int) + 1)) then (if (wrap64 ((l1.length : Int) + 1) : Int).toNat ≤ 281474976710656 then ((some (List.replicate (wrap64 ((l1.length : Int) + 1) : Int).toNat false : List Bool)).bind fun y146 => (if 0 < (y146.length : Int) then (agoraref23_match.l0 k l0 l1 (y146.set (0 : Int).toNat true) 0) else (none))) else (none)) else (none)
theorem agoraref23_match.mono_l : ∀ k, (∀ y0 y1 y2 y3, LeO (agoraref23_match.l0 k y0 y1 y2 y3) (agoraref23_match.l0 (k + 1) y0 y1 y2 y3)) ∧ (∀ y0 y1 y2 y3 y4 y5, LeO (agoraref23_match.l1 k y0 y1 y2 y3 y4 y5) (agoraref23_match.l1 (k + 1) y0 y1 y2 y3 y4 y5))
  | 0 => ⟨fun _ _ _ _ r h => by simp [agoraref23_match.l0] at h, fun _ _ _ _ _ _ r h => by simp [agoraref23_match.l1] at h⟩
  | k + 1 => by
    obtain ⟨ih0, ih1⟩ := agoraref23_match.mono_l k
    refine ⟨?_, ?_⟩
    · intro y0 y1 y2 y3
      unfold agoraref23_match.l0
      repeat' first
      | (with_reducible exact ih0 _ _ _ _)
      | (with_reducible exact ih1 _ _ _ _ _ _)
      | (with_reducible exact LeO.refl _)
      | (with_reducible exact LeO.none _)
      | (with_reducible refine LeO.ite ?_ ?_)
      | (with_reducible refine LeO.bind ?_ (fun _ => ?_))
      | exact ih0 _ _ _ _
      | exact ih1 _ _ _ _ _ _
      | exact LeO.none _
      | refine LeO.ite ?_ ?_
      | refine LeO.bind ?_ (fun _ => ?_)
    · intro y0 y1 y2 y3 y4 y5
      unfold agoraref23_match.l1
      repeat' first
      | (with_reducible exact ih0 _ _ _ _)
      | (with_reducible exact ih1 _ _ _ _ _ _)
      | (with_reducible exact LeO.refl _)
      | (with_reducible exact LeO.none _)
      | (with_reducible refine LeO.ite ?_ ?_)
      | (with_reducible refine LeO.bind ?_ (fun _ => ?_))
      | exact ih0 _ _ _ _
      | exact ih1 _ _ _ _ _ _
      | exact LeO.none _
      | refine LeO.ite ?_ ?_
      | refine LeO.bind ?_ (fun _ => ?_)
theorem agoraref23_match.mono : ∀ a0 a1 k, LeO (agoraref23_match.f k a0 a1) (agoraref23_match.f (k + 1) a0 a1) := by
  intro a0 a1 k
  obtain ⟨ih0, ih1⟩ := agoraref23_match.mono_l k
  unfold agoraref23_match.f
  repeat' first
      | (with_reducible exact ih0 _ _ _ _)
      | (with_reducible exact ih1 _ _ _ _ _ _)
      | (with_reducible exact LeO.refl _)
      | (with_reducible exact LeO.none _)
      | (with_reducible refine LeO.ite ?_ ?_)
      | (with_reducible refine LeO.bind ?_ (fun _ => ?_))
      | exact ih0 _ _ _ _
      | exact ih1 _ _ _ _ _ _
      | exact LeO.none _
      | refine LeO.ite ?_ ?_
      | refine LeO.bind ?_ (fun _ => ?_)
end Go.Proofs.YtcklgalgljmljaaDoor.Q
