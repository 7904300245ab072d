/- HandFewK: a text of this claim's proof, as printed or written, without what the claim does not use. -/
import Derived.WalkKit
import Derived.WalkSpells
import Derived.Deep.LoopGhost
import Derived.Lib.Hide
import Derived.BigQuiet
import Derived.Deep.QuietTactic
import Derived.Test.YtifcganfcjildaaGreatDoorJ5
import Derived.Test.YtifcganfcjildaaGreatDoorKx0
import Derived.Test.YtifcganfcjildaaGreatDoorKx1
namespace Go.Proofs.YtifcganfcjildaaGreatDoor.K
open Go.RowKit Go.Proofs.YtifcganfcjildaaGreatDoorW.PrintWords Go.Proofs.YtifcganfcjildaaGreatDoorW.PrintLast Go.Proofs.YtifcganfcjildaaGreatDoorW.PrintMore
set_option linter.unusedVariables false
set_option linter.unusedSimpArgs false
structure EvV where
  room : ByteArray
  type : ByteArray
  sender : ByteArray
  isS : Bool
  key : ByteArray
  kind : Int
  n : Int
  text : ByteArray
  A8 : Option Addr
  c8 : Nat
  keys : List ByteArray
  A9 : Option Addr
  c9 : Nat
  list : List JS
  A10 : Option Addr
  c10 : Nat
  prev : List ByteArray
  A11 : Option Addr
  c11 : Nat
  auth : List ByteArray
  depth : Int
  ts : Int
  hash : ByteArray
  A15 : Option Addr
  c15 : Nat
  sigs : List S131
structure EvV.Ok (x : EvV) (w : World) : Prop where
  k8 : Kd.C Kd.string w x.A8 x.keys.length x.keys
  l8 : x.keys.length ≤ x.c8
  k9 : Kd.C k44 w x.A9 x.list.length x.list
  l9 : x.list.length ≤ x.c9
theorem EvV.Ok.below {x : EvV} {w W : World} (h : x.Ok w) (hb : Below w.heap.size w W) : x.Ok W := ⟨Kd.C_below h.k8 hb, h.l8, Kd.C_below h.k9 hb, h.l9⟩
structure EvV.OkR (x : EvV) (w : World) : Prop where
  ok : x.Ok w
  k10 : Kd.C Kd.string w x.A10 x.prev.length x.prev
  l10 : x.prev.length ≤ x.c10
  k11 : Kd.C Kd.string w x.A11 x.auth.length x.auth
  l11 : x.auth.length ≤ x.c11
  k15 : Kd.C k131 w x.A15 x.sigs.length x.sigs
  l15 : x.sigs.length ≤ x.c15
theorem EvV.OkR.below {x : EvV} {w W : World} (h : x.OkR w) (hb : Below w.heap.size w W) : x.OkR W := ⟨h.ok.below hb, Kd.C_below h.k10 hb, h.l10, Kd.C_below h.k11 hb, h.l11, Kd.C_below h.k15 hb, h.l15⟩
def evC (x : EvV) : Array Value := #[.string x.room, .string x.type, .string x.sender, .bool x.isS, .string x.key, .int .i64 x.kind, .int .i64 x.n, .string x.text, .slice x.A8 x.keys.length x.c8, .slice x.A9 x.list.length x.c9, .slice x.A10 x.prev.length x.c10, .slice x.A11 x.auth.length x.c11, .int .i64 x.depth, .int .i64 x.ts, .string x.hash, .slice x.A15 x.sigs.length x.c15]
def EB (g : Nat) (x : EvV) (W : World) : Prop := W.heap[g]? = some (.cells (evC x) 47 (0, 0))
structure Near (x : EvV) : Prop where
  room : x.room.size ≤ 140737488351232
  type : x.type.size ≤ 140737488351232
  sender : x.sender.size ≤ 140737488351232
  key : x.key.size ≤ 140737488351232
  hash : x.hash.size ≤ 140737488351232
def FewC (x : EvV) : Prop := (x.room.size : Int) + x.type.size + x.sender.size + x.key.size + x.hash.size ≤ 2000 ∧ x.prev.length ≤ 30 ∧ x.auth.length ≤ 30 ∧ x.sigs.length ≤ 30 ∧ (∀ k (h : k < x.prev.length), x.prev[k].size ≤ 100) ∧ (∀ k (h : k < x.auth.length), x.auth[k].size ≤ 100) ∧ (∀ k (h : k < x.sigs.length), wrap64 ((x.sigs[k].f0.size : Int) + (x.sigs[k].f1.size : Int)) ≤ 200)
set_option maxRecDepth 100000 in
set_option maxHeartbeats 8000000 in
theorem few05_c (x : EvV) (hN : Near x) : ∃ b, (b = true → FewC x) ∧ ∀ w, x.OkR w → Calls Tryz.prog 19 #[.agg (evC x)] w fun e w' => e = .returned (.bool b) ∧ Below w.heap.size w w' := by
  obtain ⟨K, r, hr, _, _, q⟩ := left_f 20 (by omega) ⟨x.kind, x.n, x.text, x.keys, x.list⟩ 300 (by omega)
  obtain ⟨b, hb1, hb2⟩ : ∃ b : Bool, (FewC x → b = decide (r ≥ 0)) ∧ (¬ FewC x → b = false) := by
    by_cases h : FewC x
    · exact ⟨decide (r ≥ 0), fun _ => rfl, fun h' => absurd h h'⟩
    · exact ⟨false, fun h' => absurd h' h, fun _ => rfl⟩
  refine ⟨b, fun hb => ?_, fun w hx => ?_⟩
  · apply Classical.byContradiction
    intro h
    rw [hb2 h] at hb; cases hb
  have HX := Lib.hid (fun W (hb : Below w.heap.size w W) => hx.below hb)
  have HLe := Lib.hid (fun W (hx : x.OkR W) => agoralaw05_left.calls K x.kind x.n x.text x.A8 x.c8 x.keys x.A9 x.c9 x.list 300 20 r W hx.ok.k8 hx.ok.l8 hx.ok.k9 hx.ok.l9 hr)
  have HB1 := Lib.hid hb1; have HB2 := Lib.hid hb2
  have n1 := hN.room; have n2 := hN.type; have n3 := hN.sender; have n4 := hN.key; have n5 := hN.hash
  have hsum : wrap64 (wrap64 (wrap64 (wrap64 ((x.room.size : Int) + (x.type.size : Int)) + (x.sender.size : Int)) + (x.key.size : Int)) + (x.hash.size : Int)) = (x.room.size : Int) + x.type.size + x.sender.size + x.key.size + x.hash.size := by
    rw [wrap_small ((x.room.size : Int) + (x.type.size : Int)) (by omega) (by omega), wrap_small ((x.room.size : Int) + (x.type.size : Int) + (x.sender.size : Int)) (by omega) (by omega), wrap_small ((x.room.size : Int) + (x.type.size : Int) + (x.sender.size : Int) + (x.key.size : Int)) (by omega) (by omega), wrap_small _ (by omega) (by omega)]
  clear hx hr q hb1 hb2 hN
  by_cases g1 : 2000 < (x.room.size : Int) + x.type.size + x.sender.size + x.key.size + x.hash.size
  · have z1 : decide (2000 < (x.room.size : Int) + x.type.size + x.sender.size + x.key.size + x.hash.size) = true := decide_eq_true g1
    have hbf : b = false := HB2.out (fun h => by have := h.1; omega)
    clear g1
    go_enter Tryz.func19, Tryz.ntmps19
    go_wp2_with (((with_reducible refine gate_dst (N := 1) rfl ?_); refine box_event ?hg (N := 1) ?hd (cs := evC x) (t := 47) ?hr ?_; (case hd => rfl); (case hg => rfl); (case hr => first | (go_simp; done) | (go_simp; rfl)); intro g1 hg1 w1 hk1 hb1; (have hn1 : w.heap.size ≤ g1 := Nat.le_of_eq hg1.symm); have HK1 := Lib.hid hk1; have HW1 := Lib.hid hb1; clear hk1 hb1 hg1 hn1; have c0 : w1.cell? ⟨g1, 0, none⟩ = some (.string x.room) := (blk_cell HK1.out 0).trans rfl; have c1 : w1.cell? ⟨g1, 1, none⟩ = some (.string x.type) := (blk_cell HK1.out 1).trans rfl; have c2 : w1.cell? ⟨g1, 2, none⟩ = some (.string x.sender) := (blk_cell HK1.out 2).trans rfl; have c4 : w1.cell? ⟨g1, 4, none⟩ = some (.string x.key) := (blk_cell HK1.out 4).trans rfl; have c14 : w1.cell? ⟨g1, 14, none⟩ = some (.string x.hash) := (blk_cell HK1.out 14).trans rfl; have c10 : w1.cell? ⟨g1, 10, none⟩ = some (.slice x.A10 x.prev.length x.c10) := (blk_cell HK1.out 10).trans rfl; have c11 : w1.cell? ⟨g1, 11, none⟩ = some (.slice x.A11 x.auth.length x.c11) := (blk_cell HK1.out 11).trans rfl; have c15 : w1.cell? ⟨g1, 15, none⟩ = some (.slice x.A15 x.sigs.length x.c15) := (blk_cell HK1.out 15).trans rfl))
    go_ret
    exact ⟨by first | rfl | (rw [hbf]; rfl), HW1.out⟩
  have z1 : decide (2000 < (x.room.size : Int) + x.type.size + x.sender.size + x.key.size + x.hash.size) = false := decide_eq_false g1
  have G1 := Lib.hid g1
  clear g1
  by_cases g2 : 30 < x.prev.length
  · have z2 : decide ((30 : Int) < (x.prev.length : Int)) = true := decide_eq_true (by omega)
    have hbf : b = false := HB2.out (fun h => by have := h.2.1; omega)
    clear g2
    go_enter Tryz.func19, Tryz.ntmps19
    go_wp2_with (((with_reducible refine gate_dst (N := 1) rfl ?_); refine box_event ?hg (N := 1) ?hd (cs := evC x) (t := 47) ?hr ?_; (case hd => rfl); (case hg => rfl); (case hr => first | (go_simp; done) | (go_simp; rfl)); intro g1 hg1 w1 hk1 hb1; (have hn1 : w.heap.size ≤ g1 := Nat.le_of_eq hg1.symm); have HK1 := Lib.hid hk1; have HW1 := Lib.hid hb1; clear hk1 hb1 hg1 hn1; have c0 : w1.cell? ⟨g1, 0, none⟩ = some (.string x.room) := (blk_cell HK1.out 0).trans rfl; have c1 : w1.cell? ⟨g1, 1, none⟩ = some (.string x.type) := (blk_cell HK1.out 1).trans rfl; have c2 : w1.cell? ⟨g1, 2, none⟩ = some (.string x.sender) := (blk_cell HK1.out 2).trans rfl; have c4 : w1.cell? ⟨g1, 4, none⟩ = some (.string x.key) := (blk_cell HK1.out 4).trans rfl; have c14 : w1.cell? ⟨g1, 14, none⟩ = some (.string x.hash) := (blk_cell HK1.out 14).trans rfl; have c10 : w1.cell? ⟨g1, 10, none⟩ = some (.slice x.A10 x.prev.length x.c10) := (blk_cell HK1.out 10).trans rfl; have c11 : w1.cell? ⟨g1, 11, none⟩ = some (.slice x.A11 x.auth.length x.c11) := (blk_cell HK1.out 11).trans rfl; have c15 : w1.cell? ⟨g1, 15, none⟩ = some (.slice x.A15 x.sigs.length x.c15) := (blk_cell HK1.out 15).trans rfl))
    go_ret
    exact ⟨by first | rfl | (rw [hbf]; rfl), HW1.out⟩
  have z2 : decide ((30 : Int) < (x.prev.length : Int)) = false := decide_eq_false (by omega)
  by_cases g3 : 30 < x.auth.length
  · have z3 : decide ((30 : Int) < (x.auth.length : Int)) = true := decide_eq_true (by omega)
    have hbf : b = false := HB2.out (fun h => by have := h.2.2.1; omega)
    clear g3
    go_enter Tryz.func19, Tryz.ntmps19
    go_wp2_with (((with_reducible refine gate_dst (N := 1) rfl ?_); refine box_event ?hg (N := 1) ?hd (cs := evC x) (t := 47) ?hr ?_; (case hd => rfl); (case hg => rfl); (case hr => first | (go_simp; done) | (go_simp; rfl)); intro g1 hg1 w1 hk1 hb1; (have hn1 : w.heap.size ≤ g1 := Nat.le_of_eq hg1.symm); have HK1 := Lib.hid hk1; have HW1 := Lib.hid hb1; clear hk1 hb1 hg1 hn1; have c0 : w1.cell? ⟨g1, 0, none⟩ = some (.string x.room) := (blk_cell HK1.out 0).trans rfl; have c1 : w1.cell? ⟨g1, 1, none⟩ = some (.string x.type) := (blk_cell HK1.out 1).trans rfl; have c2 : w1.cell? ⟨g1, 2, none⟩ = some (.string x.sender) := (blk_cell HK1.out 2).trans rfl; have c4 : w1.cell? ⟨g1, 4, none⟩ = some (.string x.key) := (blk_cell HK1.out 4).trans rfl; have c14 : w1.cell? ⟨g1, 14, none⟩ = some (.string x.hash) := (blk_cell HK1.out 14).trans rfl; have c10 : w1.cell? ⟨g1, 10, none⟩ = some (.slice x.A10 x.prev.length x.c10) := (blk_cell HK1.out 10).trans rfl; have c11 : w1.cell? ⟨g1, 11, none⟩ = some (.slice x.A11 x.auth.length x.c11) := (blk_cell HK1.out 11).trans rfl; have c15 : w1.cell? ⟨g1, 15, none⟩ = some (.slice x.A15 x.sigs.length x.c15) := (blk_cell HK1.out 15).trans rfl))
    go_ret
    exact ⟨by first | rfl | (rw [hbf]; rfl), HW1.out⟩
  have z3 : decide ((30 : Int) < (x.auth.length : Int)) = false := decide_eq_false (by omega)
  by_cases g4 : 30 < x.sigs.length
  · have z4 : decide ((30 : Int) < (x.sigs.length : Int)) = true := decide_eq_true (by omega)
    have hbf : b = false := HB2.out (fun h => by have := h.2.2.2.1; omega)
    clear g4
    go_enter Tryz.func19, Tryz.ntmps19
    go_wp2_with (((with_reducible refine gate_dst (N := 1) rfl ?_); refine box_event ?hg (N := 1) ?hd (cs := evC x) (t := 47) ?hr ?_; (case hd => rfl); (case hg => rfl); (case hr => first | (go_simp; done) | (go_simp; rfl)); intro g1 hg1 w1 hk1 hb1; (have hn1 : w.heap.size ≤ g1 := Nat.le_of_eq hg1.symm); have HK1 := Lib.hid hk1; have HW1 := Lib.hid hb1; clear hk1 hb1 hg1 hn1; have c0 : w1.cell? ⟨g1, 0, none⟩ = some (.string x.room) := (blk_cell HK1.out 0).trans rfl; have c1 : w1.cell? ⟨g1, 1, none⟩ = some (.string x.type) := (blk_cell HK1.out 1).trans rfl; have c2 : w1.cell? ⟨g1, 2, none⟩ = some (.string x.sender) := (blk_cell HK1.out 2).trans rfl; have c4 : w1.cell? ⟨g1, 4, none⟩ = some (.string x.key) := (blk_cell HK1.out 4).trans rfl; have c14 : w1.cell? ⟨g1, 14, none⟩ = some (.string x.hash) := (blk_cell HK1.out 14).trans rfl; have c10 : w1.cell? ⟨g1, 10, none⟩ = some (.slice x.A10 x.prev.length x.c10) := (blk_cell HK1.out 10).trans rfl; have c11 : w1.cell? ⟨g1, 11, none⟩ = some (.slice x.A11 x.auth.length x.c11) := (blk_cell HK1.out 11).trans rfl; have c15 : w1.cell? ⟨g1, 15, none⟩ = some (.slice x.A15 x.sigs.length x.c15) := (blk_cell HK1.out 15).trans rfl))
    go_ret
    exact ⟨by first | rfl | (rw [hbf]; rfl), HW1.out⟩
  have z4 : decide ((30 : Int) < (x.sigs.length : Int)) = false := decide_eq_false (by omega)
  have hCall : (∀ k (h : k < x.prev.length), x.prev[k].size ≤ 100) → (∀ k (h : k < x.auth.length), x.auth[k].size ≤ 100) → (∀ k (h : k < x.sigs.length), wrap64 ((x.sigs[k].f0.size : Int) + (x.sigs[k].f1.size : Int)) ≤ 200) → b = decide (r ≥ 0) := fun a1 a2 a3 => HB1.out ⟨by have := G1.out; omega, by omega, by omega, by omega, a1, a2, a3⟩
  have HCall := Lib.hid hCall
  clear hCall
  go_enter Tryz.func19, Tryz.ntmps19
  go_wp2_with (((with_reducible refine gate_dst (N := 1) rfl ?_); refine box_event ?hg (N := 1) ?hd (cs := evC x) (t := 47) ?hr ?_; (case hd => rfl); (case hg => rfl); (case hr => first | (go_simp; done) | (go_simp; rfl)); intro g1 hg1 w1 hk1 hb1; (have hn1 : w.heap.size ≤ g1 := Nat.le_of_eq hg1.symm); have HK1 := Lib.hid hk1; have HW1 := Lib.hid hb1; clear hk1 hb1 hg1 hn1; have c0 : w1.cell? ⟨g1, 0, none⟩ = some (.string x.room) := (blk_cell HK1.out 0).trans rfl; have c1 : w1.cell? ⟨g1, 1, none⟩ = some (.string x.type) := (blk_cell HK1.out 1).trans rfl; have c2 : w1.cell? ⟨g1, 2, none⟩ = some (.string x.sender) := (blk_cell HK1.out 2).trans rfl; have c4 : w1.cell? ⟨g1, 4, none⟩ = some (.string x.key) := (blk_cell HK1.out 4).trans rfl; have c14 : w1.cell? ⟨g1, 14, none⟩ = some (.string x.hash) := (blk_cell HK1.out 14).trans rfl; have c10 : w1.cell? ⟨g1, 10, none⟩ = some (.slice x.A10 x.prev.length x.c10) := (blk_cell HK1.out 10).trans rfl; have c11 : w1.cell? ⟨g1, 11, none⟩ = some (.slice x.A11 x.auth.length x.c11) := (blk_cell HK1.out 11).trans rfl; have c15 : w1.cell? ⟨g1, 15, none⟩ = some (.slice x.A15 x.sigs.length x.c15) := (blk_cell HK1.out 15).trans rfl))
  clear z1 z2 z3 z4 hsum c0 c1 c2 c4 c10 c11 c14 c15
  go_loopw [3] (fun vi wr => ∃ i : Nat, i ≤ x.prev.length ∧ vi = .int .i64 i ∧ Hid (∀ k (h : k < x.prev.length), k < i → x.prev[k].size ≤ 100) ∧ Hid (Below w.heap.size w wr) ∧ Hid (EB g1 x wr)) (fun vi _ => x.prev.length - (intOf vi).toNat)
  case atStart => exact ⟨0, Nat.zero_le _, rfl, Lib.hid (fun k h h0 => by omega), HW1, HK1⟩
  case round =>
    clear HW1 HK1
    obtain ⟨i, hi, rfl, HL, HB, HK⟩ := hrel
    have c10 : wr.cell? ⟨g1, 10, none⟩ = some (.slice x.A10 x.prev.length x.c10) := (blk_cell HK.out 10).trans rfl
    by_cases h1 : i < x.prev.length
    · have b1 : decide ((i : Int) < (x.prev.length : Int)) = true := decide_eq_true (by omega)
      obtain ⟨ad, hA, g0⟩ := Kd.at_string (HX.out wr HB.out).k10 (i : Int) (by omega) (by omega)
      rw [show rdOf ByteArray.empty x.prev (i : Int) = x.prev[i] by simp [rdOf, h1], Int.toNat_natCast] at g0
      rw [hA] at c10
      by_cases h2 : 100 < x.prev[i].size
      · have b2 : decide ((100 : Int) < (x.prev[i].size : Int)) = true := decide_eq_true (by omega)
        have hbf : b = false := HB2.out (fun h => by have := h.2.2.2.2.1 i h1; omega)
        clear h2
        generalize x.prev[i] = s at *
        go_wp2
        go_ret
        exact ⟨by first | rfl | (rw [hbf]; rfl), HB.out⟩
      · have b2 : decide ((100 : Int) < (x.prev[i].size : Int)) = false := decide_eq_false (by omega)
        have HL2 := Lib.hid (show ∀ k (h : k < x.prev.length), k < i + 1 → x.prev[k].size ≤ 100 from fun k h h3 => by
          by_cases hk : k = i
          · subst hk; omega
          · exact HL.out k h (by omega))
        clear h2 HL
        generalize x.prev[i] = s at *
        go_wp2
        go_roundw
        case rel => exact ⟨i + 1, by omega, by simp, HL2, HB, HK⟩
        case measure => simp [intOf]; omega
    · obtain rfl : i = x.prev.length := by omega
      have b1 : decide ((x.prev.length : Int) < (x.prev.length : Int)) = false := decide_eq_false (by omega)
      have HP1 := Lib.hid (show ∀ k (h : k < x.prev.length), x.prev[k].size ≤ 100 from fun k h => HL.out k h h)
      clear HL h1
      go_wp2
      clear c10 b1
      go_loopw [4] (fun vi wr => ∃ i : Nat, i ≤ x.auth.length ∧ vi = .int .i64 i ∧ Hid (∀ k (h : k < x.auth.length), k < i → x.auth[k].size ≤ 100) ∧ Hid (Below w.heap.size w wr) ∧ Hid (EB g1 x wr)) (fun vi _ => x.auth.length - (intOf vi).toNat)
      case atStart => exact ⟨0, Nat.zero_le _, rfl, Lib.hid (fun k h h0 => by omega), HB, HK⟩
      case round =>
        clear HB HK
        obtain ⟨i, hi, rfl, HL, HB, HK⟩ := hrel
        have c11 : wr.cell? ⟨g1, 11, none⟩ = some (.slice x.A11 x.auth.length x.c11) := (blk_cell HK.out 11).trans rfl
        by_cases h1 : i < x.auth.length
        · have b1 : decide ((i : Int) < (x.auth.length : Int)) = true := decide_eq_true (by omega)
          obtain ⟨ad, hA, g0⟩ := Kd.at_string (HX.out wr HB.out).k11 (i : Int) (by omega) (by omega)
          rw [show rdOf ByteArray.empty x.auth (i : Int) = x.auth[i] by simp [rdOf, h1], Int.toNat_natCast] at g0
          rw [hA] at c11
          by_cases h2 : 100 < x.auth[i].size
          · have b2 : decide ((100 : Int) < (x.auth[i].size : Int)) = true := decide_eq_true (by omega)
            have hbf : b = false := HB2.out (fun h => by have := h.2.2.2.2.2.1 i h1; omega)
            clear h2
            generalize x.auth[i] = s at *
            go_wp2
            go_ret
            exact ⟨by first | rfl | (rw [hbf]; rfl), HB.out⟩
          · have b2 : decide ((100 : Int) < (x.auth[i].size : Int)) = false := decide_eq_false (by omega)
            have HL2 := Lib.hid (show ∀ k (h : k < x.auth.length), k < i + 1 → x.auth[k].size ≤ 100 from fun k h h3 => by
              by_cases hk : k = i
              · subst hk; omega
              · exact HL.out k h (by omega))
            clear h2 HL
            generalize x.auth[i] = s at *
            go_wp2
            go_roundw
            case rel => exact ⟨i + 1, by omega, by simp, HL2, HB, HK⟩
            case measure => simp [intOf]; omega
        · obtain rfl : i = x.auth.length := by omega
          have b1 : decide ((x.auth.length : Int) < (x.auth.length : Int)) = false := decide_eq_false (by omega)
          have HP2 := Lib.hid (show ∀ k (h : k < x.auth.length), x.auth[k].size ≤ 100 from fun k h => HL.out k h h)
          clear HL h1
          go_wp2
          clear c11 b1
          go_loopw [5] (fun vi wr => ∃ i : Nat, i ≤ x.sigs.length ∧ vi = .int .i64 i ∧ Hid (∀ k (h : k < x.sigs.length), k < i → wrap64 ((x.sigs[k].f0.size : Int) + (x.sigs[k].f1.size : Int)) ≤ 200) ∧ Hid (Below w.heap.size w wr) ∧ Hid (EB g1 x wr)) (fun vi _ => x.sigs.length - (intOf vi).toNat)
          case atStart => exact ⟨0, Nat.zero_le _, rfl, Lib.hid (fun k h h0 => by omega), HB, HK⟩
          case round =>
            clear HB HK
            obtain ⟨i, hi, rfl, HL, HB, HK⟩ := hrel
            have c15 : wr.cell? ⟨g1, 15, none⟩ = some (.slice x.A15 x.sigs.length x.c15) := (blk_cell HK.out 15).trans rfl
            by_cases h1 : i < x.sigs.length
            · have b1 : decide ((i : Int) < (x.sigs.length : Int)) = true := decide_eq_true (by omega)
              have i1 : (i : Int) < (x.sigs.length : Int) := by omega
              obtain ⟨ad, hA, d0, d1⟩ := at_T131 (HX.out wr HB.out).k15 (i : Int) (by omega) (by omega)
              rw [show rd_T131 x.sigs (i : Int) = x.sigs[i] by simp [rd_T131, h1], Int.toNat_natCast] at *
              rw [hA] at c15
              by_cases h2 : 200 < wrap64 ((x.sigs[i].f0.size : Int) + (x.sigs[i].f1.size : Int))
              · have b2 : decide (200 < wrap64 ((x.sigs[i].f0.size : Int) + (x.sigs[i].f1.size : Int))) = true := decide_eq_true h2
                have hbf : b = false := HB2.out (fun h => absurd (h.2.2.2.2.2.2 i h1) (Int.not_le.2 h2))
                clear h2
                generalize x.sigs[i] = s at *
                go_wp2
                go_quiet (fail)
                go_wp2
                go_ret
                exact ⟨by first | rfl | (rw [hbf]; rfl), pw_below_drewN HB.out _⟩
              · have b2 : decide (200 < wrap64 ((x.sigs[i].f0.size : Int) + (x.sigs[i].f1.size : Int))) = false := decide_eq_false h2
                have HL2 := Lib.hid (show ∀ k (h : k < x.sigs.length), k < i + 1 → wrap64 ((x.sigs[k].f0.size : Int) + (x.sigs[k].f1.size : Int)) ≤ 200 from fun k h h3 => by
                  by_cases hk : k = i
                  · subst hk; exact Int.not_lt.1 h2
                  · exact HL.out k h (Nat.lt_of_le_of_ne (Nat.le_of_lt_succ h3) hk))
                clear h2 HL
                generalize x.sigs[i] = s at *
                go_wp2
                go_quiet (fail)
                go_wp2
                go_roundw
                case rel => exact ⟨i + 1, by omega, by simp, HL2, Lib.hid (pw_below_drewN HB.out _), Lib.hid (blk_drewN HK.out _)⟩
                case measure => simp [intOf]; omega
            · obtain rfl : i = x.sigs.length := by omega
              have b1 : decide ((x.sigs.length : Int) < (x.sigs.length : Int)) = false := decide_eq_false (by omega)
              have hbf := HCall.out HP1.out HP2.out (fun k h => HL.out k h h)
              have c5 : wr.cell? ⟨g1, 5, none⟩ = some (.int .i64 x.kind) := (blk_cell HK.out 5).trans rfl
              have c6 : wr.cell? ⟨g1, 6, none⟩ = some (.int .i64 x.n) := (blk_cell HK.out 6).trans rfl
              have c7 : wr.cell? ⟨g1, 7, none⟩ = some (.string x.text) := (blk_cell HK.out 7).trans rfl
              have c8 : wr.cell? ⟨g1, 8, none⟩ = some (.slice x.A8 x.keys.length x.c8) := (blk_cell HK.out 8).trans rfl
              have c9 : wr.cell? ⟨g1, 9, none⟩ = some (.slice x.A9 x.list.length x.c9) := (blk_cell HK.out 9).trans rfl
              clear HL h1
              go_wp2_with (go_at_call 83; refine (HLe.out _ (HX.out wr HB.out)).mono ?_; rintro e w9 ⟨rfl, hb9⟩; have HB9 := Lib.hid (below_step HB.out hb9); clear hb9)
              go_ret
              exact ⟨by first | rfl | (rw [hbf]; rfl), HB9.out⟩
end Go.Proofs.YtifcganfcjildaaGreatDoor.K
