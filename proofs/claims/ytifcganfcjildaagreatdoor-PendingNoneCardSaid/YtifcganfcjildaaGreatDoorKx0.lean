/- Kx0: a text of this claim's proof, as printed or written, without what the claim does not use. -/
import Derived.Test.YtifcganfcjildaaGreatDoorProg
import Derived.Below
import Derived.Deep.Draws
import Derived.Deep.AppendLies
import Derived.Maps.AppendAt
import Derived.OwnWalk
import Derived.Laws.BytesArg
import Derived.Laws.MakeOwn
import Derived.Laws.OwnMore
import Derived.Deep.OwnRows
import Derived.Tactics
import Derived.Lib.ConvBytes
import Derived.Laws.Slices
import Derived.WalkKit
import Derived.KernelRfl
import Derived.RowKit3
import Derived.Deep.LoopGhost
import Derived.Deep.QuietTactic
import Derived.BigQuiet
import Derived.WideLaws
import Derived.Deep.DeepCutAuto
import Derived.Deep.CutBlock
import Derived.Deep.RegionHeld3
import Derived.Laws.Rows
import Derived.Lib.AppendStr
import Derived.ArgAppend
import Derived.Laws.IdiomCopy
import Derived.OrdersHeld
import Derived.Laws.BitsLemmas
import Derived.RowKit
import Derived.Test.YtifcganfcjildaaGreatDoorWWords
import Derived.Test.YtifcganfcjildaaGreatDoorWLast
import Derived.Test.YtifcganfcjildaaGreatDoorJ3
import Derived.Test.YtifcganfcjildaaGreatDoorJ4
namespace Go.Proofs.YtifcganfcjildaaGreatDoor.K
open Go.RowKit Go.Proofs.YtifcganfcjildaaGreatDoorW.PrintWords Go.Proofs.YtifcganfcjildaaGreatDoorW.PrintLast Go.Proofs.YtifcganfcjildaaGreatDoorW.PrintMore
attribute [local go_sem] max2_int min2_int max_two min_two max_three min_three max_four min_four
set_option linter.unusedVariables false
set_option linter.unusedSimpArgs false
def errW : Option Int → Value
  | none => .nilIface
  | some c => .iface 0 (.int .i64 c)
theorem errW_none : errW none = .nilIface := rfl
theorem errW_some (c : Int) : errW (some c) = .iface 0 (.int .i64 c) := rfl
structure S44 where
  f0 : Int
  f1 : Int
  f2 : ByteArray
  f3 : (List ByteArray)
  f4 : (List S44)
def z44 : S44 := ⟨(0 : Int), (0 : Int), (⟨#[]⟩ : ByteArray), ([] : List ByteArray), ([] : List S44)⟩
def F44 (d : Kd S44) : Kd S44 := Kd.iso (Kd.pair (Kd.int .i64) (Kd.pair (Kd.int .i64) (Kd.pair Kd.string (Kd.pair (Kd.slice 9 Kd.string) (Kd.slice 44 d))))) (fun x : S44 => (x.f0, x.f1, x.f2, x.f3, x.f4))
theorem sub44 : Kd.Sub F44 [9, 44] := Kd.sub_iso _ (Kd.sub_pair (Kd.sub_const _ (by decide)) (Kd.sub_pair (Kd.sub_const _ (by decide)) (Kd.sub_pair (Kd.sub_const _ (by decide)) (Kd.sub_pair (Kd.sub_const _ (by decide)) (Kd.sub_slice 44 (by decide) Kd.sub_id)))))
theorem sz44 : ∀ n, (Kd.upto F44 5 [9, 44] n).sz = 5 := Kd.upto_sz (fun _ => rfl)
def k44 : Kd S44 := Kd.fix F44 5 [9, 44] sz44 (Kd.upto_E sub44)
theorem k44_open {w : World} {x : S44} {cs : List Value} (h : k44.K w x cs) : ∃ A3 c3 A4 c4, cs = [.int .i64 x.f0, .int .i64 x.f1, .string x.f2, .slice A3 x.f3.length c3, .slice A4 x.f4.length c4] ∧ x.f3.length ≤ c3 ∧ Kd.string.C w A3 x.f3.length x.f3 ∧ x.f4.length ≤ c4 ∧ k44.C w A4 x.f4.length x.f4 := by
  obtain ⟨n, h⟩ := h
  cases n with
  | zero => exact h.elim
  | succ n =>
    obtain ⟨_, _, rfl, rfl, ⟨_, _, rfl, rfl, ⟨_, _, rfl, rfl, ⟨_, _, rfl, ⟨A3, c3, rfl, l3, g3⟩, ⟨A4, c4, rfl, l4, g4⟩⟩⟩⟩⟩ := h
    exact ⟨A3, c3, A4, c4, rfl, l3, g3, l4, Kd.fix_C g4⟩
def rd_T44 (xs : List S44) (i : Int) : S44 := xs.getD i.toNat z44
theorem at_T44 {w : World} {A : Option Addr} {n : Nat} {xs : List S44} (h : Kd.C k44 w A n xs) (i : Int) (h0 : 0 ≤ i) (h1 : i < n) : ∃ ad A3 c3 A4 c4, A = some ad ∧ w.cell? (ad.add (i.toNat * 5)) = some (.int .i64 (rd_T44 xs i).f0) ∧ w.cell? ⟨(ad.add (i.toNat * 5)).block, (ad.add (i.toNat * 5)).off + 1, none⟩ = some (.int .i64 (rd_T44 xs i).f1) ∧ w.cell? ⟨(ad.add (i.toNat * 5)).block, (ad.add (i.toNat * 5)).off + 2, none⟩ = some (.string (rd_T44 xs i).f2) ∧ w.cell? ⟨(ad.add (i.toNat * 5)).block, (ad.add (i.toNat * 5)).off + 3, none⟩ = some (.slice A3 (rd_T44 xs i).f3.length c3) ∧ w.cell? ⟨(ad.add (i.toNat * 5)).block, (ad.add (i.toNat * 5)).off + 4, none⟩ = some (.slice A4 (rd_T44 xs i).f4.length c4) ∧ (rd_T44 xs i).f3.length ≤ c3 ∧ Kd.string.C w A3 (rd_T44 xs i).f3.length (rd_T44 xs i).f3 ∧ (rd_T44 xs i).f4.length ≤ c4 ∧ k44.C w A4 (rd_T44 xs i).f4.length (rd_T44 xs i).f4 := by
  obtain ⟨ad, c, e, _, hK, hc0⟩ := Kd.C_get h z44 i h0 h1
  have hc : ∀ j u, c[j]? = some u → w.cell? (ad.add (i.toNat * 5 + j)) = some u := hc0
  obtain ⟨A3, c3, A4, c4, rfl, l3, g3, l4, g4⟩ := k44_open hK
  exact ⟨ad, A3, c3, A4, c4, e, hc 0 _ rfl, by rw [← add_field _ _ 1 (by omega)]; exact hc 1 _ rfl, by rw [← add_field _ _ 2 (by omega)]; exact hc 2 _ rfl, by rw [← add_field _ _ 3 (by omega)]; exact hc 3 _ rfl, by rw [← add_field _ _ 4 (by omega)]; exact hc 4 _ rfl, l3, g3, l4, g4⟩
structure S131 where
  f0 : ByteArray
  f1 : ByteArray
def z131 : S131 := ⟨(⟨#[]⟩ : ByteArray), (⟨#[]⟩ : ByteArray)⟩
def k131 : Kd S131 := Kd.iso (Kd.pair Kd.string Kd.string) (fun x : S131 => (x.f0, x.f1))
theorem k131_open {w : World} {x : S131} {cs : List Value} (h : k131.K w x cs) : cs = [.string x.f0, .string x.f1] := by
  obtain ⟨_, _, rfl, rfl, rfl⟩ := h
  exact rfl
def rd_T131 (xs : List S131) (i : Int) : S131 := xs.getD i.toNat z131
theorem at_T131 {w : World} {A : Option Addr} {n : Nat} {xs : List S131} (h : Kd.C k131 w A n xs) (i : Int) (h0 : 0 ≤ i) (h1 : i < n) : ∃ ad , A = some ad ∧ w.cell? (ad.add (i.toNat * 2)) = some (.string (rd_T131 xs i).f0) ∧ w.cell? ⟨(ad.add (i.toNat * 2)).block, (ad.add (i.toNat * 2)).off + 1, none⟩ = some (.string (rd_T131 xs i).f1) := by
  obtain ⟨ad, c, e, _, hK, hc0⟩ := Kd.C_get h z131 i h0 h1
  have hc : ∀ j u, c[j]? = some u → w.cell? (ad.add (i.toNat * 2 + j)) = some u := hc0
  obtain rfl := k131_open hK
  exact ⟨ad, e, hc 0 _ rfl, by rw [← add_field _ _ 1 (by omega)]; exact hc 1 _ rfl⟩
structure S47 where
  f0 : ByteArray
  f1 : ByteArray
  f2 : ByteArray
  f3 : Bool
  f4 : ByteArray
  f5 : S44
  f6 : (List ByteArray)
  f7 : (List ByteArray)
  f8 : Int
  f9 : Int
  f10 : ByteArray
  f11 : (List S131)
def k47 : Kd S47 := Kd.iso (Kd.pair Kd.string (Kd.pair Kd.string (Kd.pair Kd.string (Kd.pair Kd.bool (Kd.pair Kd.string (Kd.pair k44 (Kd.pair (Kd.slice 9 Kd.string) (Kd.pair (Kd.slice 9 Kd.string) (Kd.pair (Kd.int .i64) (Kd.pair (Kd.int .i64) (Kd.pair Kd.string (Kd.slice 131 k131)))))))))))) (fun x : S47 => (x.f0, x.f1, x.f2, x.f3, x.f4, x.f5, x.f6, x.f7, x.f8, x.f9, x.f10, x.f11))
theorem k47_open {w : World} {x : S47} {cs : List Value} (h : k47.K w x cs) : ∃ A8 c8 A9 c9 A10 c10 A11 c11 A15 c15, cs = [.string x.f0, .string x.f1, .string x.f2, .bool x.f3, .string x.f4, .int .i64 x.f5.f0, .int .i64 x.f5.f1, .string x.f5.f2, .slice A8 x.f5.f3.length c8, .slice A9 x.f5.f4.length c9, .slice A10 x.f6.length c10, .slice A11 x.f7.length c11, .int .i64 x.f8, .int .i64 x.f9, .string x.f10, .slice A15 x.f11.length c15] ∧ x.f5.f3.length ≤ c8 ∧ Kd.string.C w A8 x.f5.f3.length x.f5.f3 ∧ x.f5.f4.length ≤ c9 ∧ k44.C w A9 x.f5.f4.length x.f5.f4 ∧ x.f6.length ≤ c10 ∧ Kd.string.C w A10 x.f6.length x.f6 ∧ x.f7.length ≤ c11 ∧ Kd.string.C w A11 x.f7.length x.f7 ∧ x.f11.length ≤ c15 ∧ k131.C w A15 x.f11.length x.f11 := by
  obtain ⟨_, _, rfl, rfl, ⟨_, _, rfl, rfl, ⟨_, _, rfl, rfl, ⟨_, _, rfl, rfl, ⟨_, _, rfl, rfl, ⟨_, _, rfl, s5, ⟨_, _, rfl, ⟨A10, c10, rfl, l10, g10⟩, ⟨_, _, rfl, ⟨A11, c11, rfl, l11, g11⟩, ⟨_, _, rfl, rfl, ⟨_, _, rfl, rfl, ⟨_, _, rfl, rfl, ⟨A15, c15, rfl, l15, g15⟩⟩⟩⟩⟩⟩⟩⟩⟩⟩⟩⟩ := h
  obtain ⟨A8, c8, A9, c9, rfl, l8, g8, l9, g9⟩ := k44_open s5
  exact ⟨A8, c8, A9, c9, A10, c10, A11, c11, A15, c15, rfl, l8, g8, l9, g9, l10, g10, l11, g11, l15, g15⟩
structure S59 where
  f0 : ByteArray
  f1 : S47
def k59 : Kd S59 := Kd.iso (Kd.pair Kd.string k47) (fun x : S59 => (x.f0, x.f1))
theorem k59_open {w : World} {x : S59} {cs : List Value} (h : k59.K w x cs) : ∃ A9 c9 A10 c10 A11 c11 A12 c12 A16 c16, cs = [.string x.f0, .string x.f1.f0, .string x.f1.f1, .string x.f1.f2, .bool x.f1.f3, .string x.f1.f4, .int .i64 x.f1.f5.f0, .int .i64 x.f1.f5.f1, .string x.f1.f5.f2, .slice A9 x.f1.f5.f3.length c9, .slice A10 x.f1.f5.f4.length c10, .slice A11 x.f1.f6.length c11, .slice A12 x.f1.f7.length c12, .int .i64 x.f1.f8, .int .i64 x.f1.f9, .string x.f1.f10, .slice A16 x.f1.f11.length c16] ∧ x.f1.f5.f3.length ≤ c9 ∧ Kd.string.C w A9 x.f1.f5.f3.length x.f1.f5.f3 ∧ x.f1.f5.f4.length ≤ c10 ∧ k44.C w A10 x.f1.f5.f4.length x.f1.f5.f4 ∧ x.f1.f6.length ≤ c11 ∧ Kd.string.C w A11 x.f1.f6.length x.f1.f6 ∧ x.f1.f7.length ≤ c12 ∧ Kd.string.C w A12 x.f1.f7.length x.f1.f7 ∧ x.f1.f11.length ≤ c16 ∧ k131.C w A16 x.f1.f11.length x.f1.f11 := by
  obtain ⟨_, _, rfl, rfl, s1⟩ := h
  obtain ⟨A9, c9, A10, c10, A11, c11, A12, c12, A16, c16, rfl, l9, g9, l10, g10, l11, g11, l12, g12, l16, g16⟩ := k47_open s1
  exact ⟨A9, c9, A10, c10, A11, c11, A12, c12, A16, c16, rfl, l9, g9, l10, g10, l11, g11, l12, g12, l16, g16⟩
structure S61 where
  f0 : Int
  f1 : Int
  f2 : S59
def k61 : Kd S61 := Kd.iso (Kd.pair (Kd.int .i64) (Kd.pair (Kd.int .i64) k59)) (fun x : S61 => (x.f0, x.f1, x.f2))
theorem k61_open {w : World} {x : S61} {cs : List Value} (h : k61.K w x cs) : ∃ A11 c11 A12 c12 A13 c13 A14 c14 A18 c18, cs = [.int .i64 x.f0, .int .i64 x.f1, .string x.f2.f0, .string x.f2.f1.f0, .string x.f2.f1.f1, .string x.f2.f1.f2, .bool x.f2.f1.f3, .string x.f2.f1.f4, .int .i64 x.f2.f1.f5.f0, .int .i64 x.f2.f1.f5.f1, .string x.f2.f1.f5.f2, .slice A11 x.f2.f1.f5.f3.length c11, .slice A12 x.f2.f1.f5.f4.length c12, .slice A13 x.f2.f1.f6.length c13, .slice A14 x.f2.f1.f7.length c14, .int .i64 x.f2.f1.f8, .int .i64 x.f2.f1.f9, .string x.f2.f1.f10, .slice A18 x.f2.f1.f11.length c18] ∧ x.f2.f1.f5.f3.length ≤ c11 ∧ Kd.string.C w A11 x.f2.f1.f5.f3.length x.f2.f1.f5.f3 ∧ x.f2.f1.f5.f4.length ≤ c12 ∧ k44.C w A12 x.f2.f1.f5.f4.length x.f2.f1.f5.f4 ∧ x.f2.f1.f6.length ≤ c13 ∧ Kd.string.C w A13 x.f2.f1.f6.length x.f2.f1.f6 ∧ x.f2.f1.f7.length ≤ c14 ∧ Kd.string.C w A14 x.f2.f1.f7.length x.f2.f1.f7 ∧ x.f2.f1.f11.length ≤ c18 ∧ k131.C w A18 x.f2.f1.f11.length x.f2.f1.f11 := by
  obtain ⟨_, _, rfl, rfl, ⟨_, _, rfl, rfl, s2⟩⟩ := h
  obtain ⟨A11, c11, A12, c12, A13, c13, A14, c14, A18, c18, rfl, l11, g11, l12, g12, l13, g13, l14, g14, l18, g18⟩ := k59_open s2
  exact ⟨A11, c11, A12, c12, A13, c13, A14, c14, A18, c18, rfl, l11, g11, l12, g12, l13, g13, l14, g14, l18, g18⟩
end Go.Proofs.YtifcganfcjildaaGreatDoor.K
