/- Merged out of: Qx0, HandMax, RA14, HandA14. -/
import Derived.Test.YtifcganfcjildaaGreatDoorProg
import Derived.Below
import Derived.Deep.Draws
import Derived.Deep.AppendLies
import Derived.Maps.AppendAt
import Derived.OwnWalk
import Derived.Laws.BytesArg
import Derived.Laws.MakeOwn
import Derived.Laws.OwnMore
import Derived.Deep.OwnRows
import Derived.Tactics
import Derived.Lib.ConvBytes
import Derived.Laws.Slices
import Derived.WalkKit
import Derived.KernelRfl
import Derived.RowKit3
import Derived.Deep.LoopGhost
import Derived.Deep.QuietTactic
import Derived.BigQuiet
import Derived.WideLaws
import Derived.Deep.DeepCutAuto
import Derived.Deep.CutBlock
import Derived.Deep.RegionHeld3
import Derived.Laws.Rows
import Derived.Lib.AppendStr
import Derived.ArgAppend
import Derived.Laws.IdiomCopy
import Derived.OrdersHeld
import Derived.Laws.BitsLemmas
import Derived.RowKit
import Derived.Test.YtifcganfcjildaaGreatDoorWWords
import Derived.Test.YtifcganfcjildaaGreatDoorWLast
import Derived.Test.YtifcganfcjildaaGreatDoorWTab
import Derived.Test.YtifcganfcjildaaGreatDoorWFour
import Derived.Test.YtifcganfcjildaaGreatDoorWQPut
import Derived.Test.YtifcganfcjildaaGreatDoorWApart
import Derived.Test.YtifcganfcjildaaGreatDoorJ2
import Derived.Test.YtifcganfcjildaaGreatDoorWZeros
import Derived.Test.YtifcganfcjildaaGreatDoorJ3
import Derived.Test.YtifcganfcjildaaGreatDoorWN
import Derived.Test.YtifcganfcjildaaGreatDoorJ4
import Derived.Test.YtifcganfcjildaaGreatDoorWInv
import Derived.Test.YtifcganfcjildaaGreatDoorWNEv
import Derived.Test.YtifcganfcjildaaGreatDoorWMore
import Derived.Test.YtifcganfcjildaaGreatDoorJ17
-- WRITTEN by a program of this session (myprint.py) over the seat's translation. Not trusted: Lean checks it.
namespace Go.Proofs.YtifcganfcjildaaGreatDoor.Q
open Go.RowKit Go.Proofs.YtifcganfcjildaaGreatDoorW.PrintWords Go.Proofs.YtifcganfcjildaaGreatDoorW.PrintLast Go.Proofs.YtifcganfcjildaaGreatDoorW.PrintMore
attribute [local go_sem] max2_int min2_int max_two min_two max_three min_three max_four min_four   -- for this text's walks alone
set_option linter.unusedVariables false
set_option linter.unusedSimpArgs false



def errW : Option Int → Value
  | none => .nilIface
  | some c => .iface 0 (.int .i64 c)
theorem errW_none : errW none = .nilIface := rfl
theorem errW_some (c : Int) : errW (some c) = .iface 0 (.int .i64 c) := rfl

theorem info2 : (Tryz.prog.info? 2).map (fun i => (i.zero, i.size, i.bytes)) = some (some (.int .i64 0), 1, 8) := by kernel_rfl
-- the values' own types
def rd_L1 (xs : List (List Int)) (i : Int) : (List Int) := xs.getD i.toNat ([] : List Int)
theorem at_L1 {w : World} {A : Option Addr} {n : Nat} {xs : List (List Int)} (h : Kd.C (Kd.slice 2 (Kd.int .i64)) w A n xs) (i : Int) (h0 : 0 ≤ i) (h1 : i < n) : ∃ ad A0 c0, A = some ad ∧ w.cell? (ad.add i.toNat) = some (.slice A0 (rd_L1 xs i).length c0) ∧ (rd_L1 xs i).length ≤ c0 ∧ (Kd.int .i64).C w A0 (rd_L1 xs i).length (rd_L1 xs i) := by
  obtain ⟨ad, c, e, _, hK, hc0⟩ := Kd.C_get h ([] : List Int) i h0 h1
  have hc : ∀ j u, c[j]? = some u → w.cell? (ad.add (i.toNat * 1 + j)) = some u := hc0
  obtain ⟨A0, c0, rfl, l0, g0⟩ := hK
  exact ⟨ad, A0, c0, e, by have hq := hc 0 _ rfl; rwa [Nat.mul_one, Nat.add_zero] at hq, l0, g0⟩

end Go.Proofs.YtifcganfcjildaaGreatDoor.Q

/- slices.Max of numbers, in the print's form, by hand. -/
namespace Go.Proofs.YtifcganfcjildaaGreatDoor.Q
open Go.RowKit Go.Proofs.YtifcganfcjildaaGreatDoorW.PrintWords Go.Proofs.YtifcganfcjildaaGreatDoorW.PrintLast Go.Proofs.YtifcganfcjildaaGreatDoorW.PrintMore
attribute [local go_sem] max2_int min2_int max_two min_two
set_option linter.unusedVariables false
set_option linter.unusedSimpArgs false
def slices_Max_int64_int64.l0 : Nat → List Int → Int → Int → Option Int
  | 0, _, _, _ => none
  | k + 1, l, m, i => if i < (l.length : Int) then (if 0 ≤ i then slices_Max_int64_int64.l0 k l (mx m (rd l i)) (wrap64 (i + 1)) else none) else some m
def slices_Max_int64_int64.f (k : Nat) (l0 : List Int) : Option Int := if 0 < (l0.length : Int) then slices_Max_int64_int64.l0 k l0 (rd l0 0) 1 else none
theorem slices_Max_int64_int64.mono_l : ∀ k, (∀ y0 y1 y2, LeO (slices_Max_int64_int64.l0 k y0 y1 y2) (slices_Max_int64_int64.l0 (k + 1) y0 y1 y2))
  | 0 => fun _ _ _ r h => by simp [slices_Max_int64_int64.l0] at h
  | k + 1 => by
    have ih0 := slices_Max_int64_int64.mono_l k
    intro y0 y1 y2
    unfold slices_Max_int64_int64.l0
    repeat' first
      | (with_reducible exact ih0 _ _ _)
      | (with_reducible exact LeO.refl _)
      | (with_reducible exact LeO.none _)
      | (with_reducible refine LeO.ite ?_ ?_)
theorem slices_Max_int64_int64.mono : ∀ a0 k, LeO (slices_Max_int64_int64.f k a0) (slices_Max_int64_int64.f (k + 1) a0) := by
  intro a0 k
  have ih0 := slices_Max_int64_int64.mono_l k
  unfold slices_Max_int64_int64.f
  repeat' first
      | (with_reducible exact ih0 _ _ _)
      | (with_reducible exact LeO.refl _)
      | (with_reducible exact LeO.none _)
      | (with_reducible refine LeO.ite ?_ ?_)
set_option maxHeartbeats 4000000 in
set_option maxRecDepth 100000 in
theorem slices_Max_int64_int64.calls (k : Nat) (A0 : Option Addr) (c0 : Nat) (l0 : List Int) (r : Int) (w : World) (hr0 : Kd.C (Kd.int .i64) w A0 l0.length l0) (hc0 : l0.length ≤ c0) (h : slices_Max_int64_int64.f k l0 = some r) :
    Calls Tryz.prog 79 #[.slice A0 l0.length c0] w fun e w' => e = .returned (.int .i64 r) ∧ Below w.heap.size w w' := by
  have HR0 := Aside0.mk hr0
  have HC0 := Aside0.mk hc0
  clear hr0 hc0
  have HB := Aside0.mk (Below.refl w.heap.size w)
  unfold slices_Max_int64_int64.f at h
  by_cases c1 : 0 < (l0.length : Int)
  · rw [if_pos c1] at h
    have H' := Aside0.mk h
    clear h
    have c1b : decide ((l0.length : Int) < 1) = false := by simp; omega
    have p100 : (0 : Int) ≤ 0 := by omega
    obtain ⟨ad0, e0, hx0⟩ := Kd.at_int HR0.out 0 p100 c1
    cases e0
    have c1n : (0 < l0.length) = True := eq_true (by omega)
    have hx0b : w.cell? ad0 = some (.int .i64 (rd l0 0)) := hx0
    replace c1 := eq_true c1
    go_enter Tryz.func79, Tryz.ntmps79
    go_wp2
    go_loopg [3, 4] k (fun kq v3 v4 w' => ∃ (x3_1 : Int) (x4_1 : Int), v3 = .int .i64 x3_1 ∧ v4 = .int .i64 x4_1 ∧ Aside0 (slices_Max_int64_int64.l0 kq l0 x3_1 x4_1 = some r) ∧ Aside0 (kq ≤ k) ∧ Aside0 (Below w.heap.size w w'))
    case atStart => exact ⟨rd l0 0, 1, (by first | rfl | (simp; done) | (simp [*]; done)), (by first | rfl | (simp; done)), H', ⟨Nat.le_refl _⟩, ⟨by repeat (first | (with_reducible first | exact HB.out | apply below_alloc | apply pw_below_drewN | apply below_drew1) | exact HB.out)⟩⟩
    case round =>
      clear H'
      obtain ⟨x3_1, x4_1, rfl, rfl, HA, HK1, HB⟩ := hrel
      cases gk with
      | zero => exact absurd HA.out (by simp [slices_Max_int64_int64.l0])
      | succ k1 =>
        have H := HA.out
        clear HA
        simp only [slices_Max_int64_int64.l0] at H
        by_cases c2 : x4_1 < (l0.length : Int)
        · rw [if_pos c2] at H
          have c2b0 : decide (x4_1 < (l0.length : Int)) = true := decide_eq_true c2
          by_cases c3 : 0 ≤ x4_1
          · rw [if_pos c3] at H
            have c3b0 : decide (0 ≤ x4_1) = true := decide_eq_true c3
            obtain ⟨ji6, hji6⟩ : ∃ j_ : Int, (mx x3_1 (rd l0 x4_1)) = j_ := ⟨_, rfl⟩
            rw [hji6] at H
            have hji6_ : (if x3_1 < (rd l0 x4_1) then (rd l0 x4_1) else x3_1) = ji6 := hji6
            have H' := Aside0.mk H
            clear H
            obtain ⟨ad101, e101, hx101_0⟩ := Kd.at_int HR0.out x4_1 c3 c2
            first | (cases e101) | (obtain rfl : ad0 = ad101 := (by injection e101))
            replace hx101_0 := (HB.out.cell (World.block_lt_of_cell? w _ hx101_0)).trans hx101_0
            replace c3 := eq_true c3
            replace c2 := eq_true c2
            go_wp2
            go_roundg k1
            case measure => have := HK1.out; omega
            case rel => exact ⟨(ji6), (wrap64 (x4_1 + 1)), (by first | rfl | (simp; done) | (simp only [← hji6] <;> (first | rfl | simp)) | (simp [*]; done)), (by first | rfl | (simp; done) | (simp [*]; done)), H', ⟨by have := HK1.out; omega⟩, ⟨by repeat (first | (with_reducible first | exact HB.out | apply below_alloc | apply pw_below_drewN | apply below_drew1) | exact HB.out)⟩⟩
          · rw [if_neg c3] at H; cases H
        · rw [if_neg c2] at H
          have c2b0 : decide (x4_1 < (l0.length : Int)) = false := decide_eq_false c2
          obtain rfl := Option.some.inj H
          go_wp2
          go_ret
          exact ⟨rfl, HB.out⟩
  · rw [if_neg c1] at h; cases h
end Go.Proofs.YtifcganfcjildaaGreatDoor.Q

/- agoralaw14.awake answers true. -/
namespace Go.Proofs.YtifcganfcjildaaGreatDoor.E
open Go Go.RowKit
set_option linter.unusedVariables false
set_option linter.unusedSimpArgs false
set_option linter.unnecessarySimpa false
theorem run_awake14 : truthB ((callN X1 (runA X1 1000000) 18 []).run ⟨.nil, 0, 0, 0⟩) = true := by kernel_rfl
theorem awake14 (w : World) : Calls Tryz.prog 18 #[] w fun e w' => e = .returned (.bool true) ∧ Below w.heap.size w w' := calls_true X1_ok mixed_X run_awake14 w
end Go.Proofs.YtifcganfcjildaaGreatDoor.E

/- agoralaw14.awake, in the print's form: it answers true. -/
namespace Go.Proofs.YtifcganfcjildaaGreatDoor.Q
open Go.RowKit Go.Proofs.YtifcganfcjildaaGreatDoorW.PrintWords Go.Proofs.YtifcganfcjildaaGreatDoorW.PrintLast Go.Proofs.YtifcganfcjildaaGreatDoorW.PrintMore
set_option linter.unusedVariables false
def agoralaw14_awake.f (k : Nat) : Option Bool := some true
theorem agoralaw14_awake.mono : ∀ k, LeO (agoralaw14_awake.f k) (agoralaw14_awake.f (k + 1)) := fun k r h => h
theorem agoralaw14_awake.calls (k : Nat) (r : Bool) (w : World) (h : agoralaw14_awake.f k = some r) :
    Calls Tryz.prog 18 #[] w fun e w' => e = .returned (.bool r) ∧ Below w.heap.size w w' := by
  obtain rfl := Option.some.inj h
  exact E.awake14 w
end Go.Proofs.YtifcganfcjildaaGreatDoor.Q

