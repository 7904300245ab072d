/- Merged out of: Qx10, PureTok, HandEvent. -/
import Derived.Test.YtodhmbnfliajiaaGreatDoorQx0
import Derived.Lib.ItoaMem
import Derived.Lib.ParseIntBCases
import Derived.Test.YtodhmbnfliajiaaGreatDoorHandField
/- Qx10: a text of this claim's proof, as printed or written, without what the claim does not use. -/
namespace Go.Proofs.YtodhmbnfliajiaaGreatDoor.Q
open Go.RowKit Go.Proofs.YtodhmbnfliajiaaGreatDoorW.PrintWords Go.Proofs.YtodhmbnfliajiaaGreatDoorW.PrintLast Go.Proofs.YtodhmbnfliajiaaGreatDoorW.PrintMore
attribute [local go_sem] max2_int min2_int max_two min_two max_three min_three max_four min_four
set_option linter.unusedVariables false
set_option linter.unusedSimpArgs false
def agoraref23_word.f (a0 : ByteArray) : Option (Bool) := if 0 < (a0.size : Int) then (if (a0.size : Int) > 1 then (some true) else (if (bt a0 0) ≥ 97 then (if (bt a0 0) ≤ 122 then (some true) else (if (bt a0 0) ≥ 65 then (if (bt a0 0) ≤ 90 then (some true) else (if (bt a0 0) ≥ 48 then (if (bt a0 0) ≤ 57 then (some true) else (some ((bt a0 0) == 95))) else (some ((bt a0 0) == 95)))) else (if (bt a0 0) ≥ 48 then (if (bt a0 0) ≤ 57 then (some true) else (some ((bt a0 0) == 95))) else (some ((bt a0 0) == 95))))) else (if (bt a0 0) ≥ 65 then (if (bt a0 0) ≤ 90 then (some true) else (if (bt a0 0) ≥ 48 then (if (bt a0 0) ≤ 57 then (some true) else (some ((bt a0 0) == 95))) else (some ((bt a0 0) == 95)))) else (if (bt a0 0) ≥ 48 then (if (bt a0 0) ≤ 57 then (some true) else (some ((bt a0 0) == 95))) else (some ((bt a0 0) == 95)))))) else (none)
end Go.Proofs.YtodhmbnfliajiaaGreatDoor.Q

/- PureTok: a text of this claim's proof, as printed or written, without what the claim does not use. -/
namespace Go.Proofs.YtodhmbnfliajiaaGreatDoor.Q
open Go.Lib
def dval (acc : Nat) (l : List UInt8) : Nat := l.foldl (fun a c => a * 10 + (c.toNat - 48)) acc
theorem dval_nil (acc : Nat) : dval acc [] = acc := rfl
theorem dval_cons (acc : Nat) (c : UInt8) (r : List UInt8) : dval acc (c :: r) = dval (acc * 10 + (c.toNat - 48)) r := by unfold dval; rw [List.foldl_cons]
def isD (c : UInt8) : Bool := decide (48 ≤ c.toNat ∧ c.toNat ≤ 57)
theorem dval_lt : ∀ (l : List UInt8) (acc : Nat), l.all isD = true → dval acc l < (acc + 1) * 10 ^ l.length
  | [], acc, _ => by rw [dval_nil, List.length_nil, Nat.pow_zero, Nat.mul_one]; exact Nat.lt_succ_self _
  | c :: r, acc, h => by
    simp only [List.all_cons, Bool.and_eq_true] at h
    have hc := of_decide_eq_true h.1
    have ih := dval_lt r (acc * 10 + (c.toNat - 48)) h.2
    rw [dval_cons, List.length_cons]
    refine Nat.lt_of_lt_of_le ih ?_
    rw [Nat.pow_succ, Nat.mul_comm (10 ^ r.length) 10, ← Nat.mul_assoc]
    exact Nat.mul_le_mul_right _ (by omega)
theorem dval_ge : ∀ (l : List UInt8) (acc : Nat), acc ≤ dval acc l
  | [], acc => Nat.le_refl _
  | c :: r, acc => by
    rw [dval_cons]; exact Nat.le_trans (by omega) (dval_ge r _)
theorem pu_ok (M : Nat) : ∀ (l : List UInt8) (acc : Nat), l.all isD = true → dval acc l ≤ M → dval acc l < 1000000000000000000 → parseUintM M acc l = .ok (dval acc l)
  | [], acc, _, _, _ => by rw [parseUintM, dval_nil]
  | c :: r, acc, h, hM, hb => by
    simp only [List.all_cons, Bool.and_eq_true] at h
    have hc := of_decide_eq_true h.1
    rw [dval_cons] at hM hb
    have hge := dval_ge r (acc * 10 + (c.toNat - 48))
    rw [parseUintM, if_pos hc, if_neg (by omega), if_neg (by omega), dval_cons]
    exact pu_ok M r _ h.2 hM hb
theorem pi_ok (l : List UInt8) (hne : l ≠ []) (hd : l.all isD = true) (hl : l.length ≤ 18) : parseIntB 64 l = .ok ((dval 0 l : Nat) : Int) := by
  have hb := dval_lt l 0 hd
  have h18 : 10 ^ l.length ≤ 10 ^ 18 := Nat.pow_le_pow_right (by omega) hl
  have hb2 : dval 0 l < 1000000000000000000 := by
    have e : (10 : Nat) ^ 18 = 1000000000000000000 := by decide
    rw [e] at h18; omega
  cases l with
  | nil => exact absurd rfl hne
  | cons c r =>
    have hc : 48 ≤ c.toNat ∧ c.toNat ≤ 57 := by simp only [List.all_cons, Bool.and_eq_true] at hd; exact of_decide_eq_true hd.1
    rw [parseIntB_plain 64 c r (by omega) (by omega)]
    have hu : parseUintB 64 (c :: r) = .ok (dval 0 (c :: r)) := by
      unfold parseUintB
      rw [if_neg (by simp)]
      exact pu_ok _ _ 0 hd (by have : (2 : Nat) ^ 64 - 1 = 18446744073709551615 := by decide
                               omega) hb2
    rw [hu]
    have h63 : (2 : Nat) ^ (64 - 1) = 9223372036854775808 := by decide
    simp only [signlessC, h63]
    rw [if_neg (by omega)]
end Go.Proofs.YtodhmbnfliajiaaGreatDoor.Q

/- HandEvent: a text of this claim's proof, as printed or written, without what the claim does not use. -/
namespace Go.Proofs.YtodhmbnfliajiaaGreatDoor.Q
open Go.RowKit Go.Proofs.YtodhmbnfliajiaaGreatDoorW.PrintWords Go.Proofs.YtodhmbnfliajiaaGreatDoorW.PrintLast Go.Proofs.YtodhmbnfliajiaaGreatDoorW.PrintMore
structure EvV.OkR (x : EvV) (w : World) : Prop where
  ok : x.Ok w
  k10 : Kd.C Kd.string w x.A10 x.prev.length x.prev
  l10 : x.prev.length ≤ x.c10
  k11 : Kd.C Kd.string w x.A11 x.auth.length x.auth
  l11 : x.auth.length ≤ x.c11
  k15 : Kd.C k69 w x.A15 x.sigs.length x.sigs
  l15 : x.sigs.length ≤ x.c15
theorem EvV.OkR.below {x : EvV} {w W : World} (h : x.OkR w) (hb : Below w.heap.size w W) : x.OkR W := ⟨h.ok.below hb, Kd.C_below h.k10 hb, h.l10, Kd.C_below h.k11 hb, h.l11, Kd.C_below h.k15 hb, h.l15⟩
def evC (x : EvV) : Array Value := #[.string x.room, .string x.type, .string x.sender, .bool x.isS, .string x.key, .int .i64 x.kind, .int .i64 x.n, .string x.text, .slice x.A8 x.keys.length x.c8, .slice x.A9 x.list.length x.c9, .slice x.A10 x.prev.length x.c10, .slice x.A11 x.auth.length x.c11, .int .i64 x.depth, .int .i64 x.ts, .string x.hash, .slice x.A15 x.sigs.length x.c15]
def EB (g : Nat) (x : EvV) (W : World) : Prop := W.heap[g]? = some (.cells (evC x) 30 (0, 0))
end Go.Proofs.YtodhmbnfliajiaaGreatDoor.Q

