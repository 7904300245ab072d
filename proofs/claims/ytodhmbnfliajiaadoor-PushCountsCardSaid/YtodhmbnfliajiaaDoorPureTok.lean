/- PureTok: a text of this claim's proof, as printed or written, without what the claim does not use. -/
import Derived.Lib.ItoaMem
import Derived.Lib.ParseIntBCases
namespace Go.Proofs.YtodhmbnfliajiaaDoor.Q
open Go.Lib
def dval (acc : Nat) (l : List UInt8) : Nat := l.foldl (fun a c => a * 10 + (c.toNat - 48)) acc
theorem dval_nil (acc : Nat) : dval acc [] = acc := rfl
theorem dval_cons (acc : Nat) (c : UInt8) (r : List UInt8) : dval acc (c :: r) = dval (acc * 10 + (c.toNat - 48)) r := by unfold dval; rw [List.foldl_cons]
def isD (c : UInt8) : Bool := decide (48 ≤ c.toNat ∧ c.toNat ≤ 57)
theorem dval_append (a b : List UInt8) (acc : Nat) : dval acc (a ++ b) = dval (dval acc a) b := List.foldl_append ..
theorem dd_small {u : Nat} (h : u < 10) : decDigits u = [UInt8.ofNat (48 + u)] := decDigits_one h
theorem dd_big {u : Nat} (h : ¬ u < 10) : decDigits u = decDigits (u / 10) ++ [UInt8.ofNat (48 + u % 10)] := by rw [decDigits, dif_neg h]
theorem ofNat_digit {k : Nat} (h : k < 10) : (UInt8.ofNat (48 + k)).toNat = 48 + k := by
  rw [UInt8.toNat_ofNat']; omega
theorem dd_all (u : Nat) : (decDigits u).all isD = true := by
  induction u using Nat.strongRecOn with
  | ind u ih =>
    by_cases h : u < 10
    · rw [dd_small h]; simp only [List.all_cons, List.all_nil, Bool.and_true, isD, ofNat_digit h]; exact decide_eq_true (by omega)
    · rw [dd_big h, List.all_append, ih (u / 10) (by omega)]
      simp only [List.all_cons, List.all_nil, Bool.and_true, isD, ofNat_digit (show u % 10 < 10 by omega), Bool.true_and]
      exact decide_eq_true (by omega)
theorem dd_val (u : Nat) : dval 0 (decDigits u) = u := by
  induction u using Nat.strongRecOn with
  | ind u ih =>
    by_cases h : u < 10
    · rw [dd_small h]; rw [dval_cons, dval_nil, ofNat_digit h]; omega
    · rw [dd_big h, dval_append, ih (u / 10) (by omega)]
      rw [dval_cons, dval_nil, ofNat_digit (show u % 10 < 10 by omega)]
      omega
theorem dd_ne (u : Nat) : decDigits u ≠ [] := by
  by_cases h : u < 10
  · rw [dd_small h]; simp
  · rw [dd_big h]; simp
theorem dd_len (k : Nat) : ∀ u, (decDigits u).length ≤ k + 1 ↔ u < 10 ^ (k + 1) := by
  induction k with
  | zero =>
    intro u
    by_cases h : u < 10
    · rw [dd_small h]; simp; exact h
    · rw [dd_big h]
      have := List.length_pos_iff.2 (dd_ne (u / 10))
      simp only [List.length_append, List.length_cons, List.length_nil]
      constructor
      · intro h2; omega
      · intro h2; exact absurd h2 (by simpa using h)
  | succ k ih =>
    intro u
    by_cases h : u < 10
    · rw [dd_small h]
      have : 10 ≤ 10 ^ (k + 1 + 1) := by
        have := Nat.pow_le_pow_right (show 0 < 10 by omega) (show 1 ≤ k + 1 + 1 by omega)
        simpa using this
      simp only [List.length_cons, List.length_nil]; omega
    · rw [dd_big h]
      simp only [List.length_append, List.length_cons, List.length_nil]
      have h2 := ih (u / 10)
      have h3 : 10 ^ (k + 1 + 1) = 10 ^ (k + 1) * 10 := Nat.pow_succ ..
      rw [h3]
      constructor
      · intro h4
        have := h2.1 (by omega)
        omega
      · intro h4
        have := h2.2 (by omega)
        omega
theorem dval_lt : ∀ (l : List UInt8) (acc : Nat), l.all isD = true → dval acc l < (acc + 1) * 10 ^ l.length
  | [], acc, _ => by rw [dval_nil, List.length_nil, Nat.pow_zero, Nat.mul_one]; exact Nat.lt_succ_self _
  | c :: r, acc, h => by
    simp only [List.all_cons, Bool.and_eq_true] at h
    have hc := of_decide_eq_true h.1
    have ih := dval_lt r (acc * 10 + (c.toNat - 48)) h.2
    rw [dval_cons, List.length_cons]
    refine Nat.lt_of_lt_of_le ih ?_
    rw [Nat.pow_succ, Nat.mul_comm (10 ^ r.length) 10, ← Nat.mul_assoc]
    exact Nat.mul_le_mul_right _ (by omega)
theorem dval_ge : ∀ (l : List UInt8) (acc : Nat), acc ≤ dval acc l
  | [], acc => Nat.le_refl _
  | c :: r, acc => by
    rw [dval_cons]; exact Nat.le_trans (by omega) (dval_ge r _)
theorem pu_ok (M : Nat) : ∀ (l : List UInt8) (acc : Nat), l.all isD = true → dval acc l ≤ M → dval acc l < 1000000000000000000 → parseUintM M acc l = .ok (dval acc l)
  | [], acc, _, _, _ => by rw [parseUintM, dval_nil]
  | c :: r, acc, h, hM, hb => by
    simp only [List.all_cons, Bool.and_eq_true] at h
    have hc := of_decide_eq_true h.1
    rw [dval_cons] at hM hb
    have hge := dval_ge r (acc * 10 + (c.toNat - 48))
    rw [parseUintM, if_pos hc, if_neg (by omega), if_neg (by omega), dval_cons]
    exact pu_ok M r _ h.2 hM hb
theorem pi_ok (l : List UInt8) (hne : l ≠ []) (hd : l.all isD = true) (hl : l.length ≤ 18) : parseIntB 64 l = .ok ((dval 0 l : Nat) : Int) := by
  have hb := dval_lt l 0 hd
  have h18 : 10 ^ l.length ≤ 10 ^ 18 := Nat.pow_le_pow_right (by omega) hl
  have hb2 : dval 0 l < 1000000000000000000 := by
    have e : (10 : Nat) ^ 18 = 1000000000000000000 := by decide
    rw [e] at h18; omega
  cases l with
  | nil => exact absurd rfl hne
  | cons c r =>
    have hc : 48 ≤ c.toNat ∧ c.toNat ≤ 57 := by simp only [List.all_cons, Bool.and_eq_true] at hd; exact of_decide_eq_true hd.1
    rw [parseIntB_plain 64 c r (by omega) (by omega)]
    have hu : parseUintB 64 (c :: r) = .ok (dval 0 (c :: r)) := by
      unfold parseUintB
      rw [if_neg (by simp)]
      exact pu_ok _ _ 0 hd (by
          have : (2 : Nat) ^ 64 - 1 = 18446744073709551615 := by decide
          omega) hb2
    rw [hu]
    have h63 : (2 : Nat) ^ (64 - 1) = 9223372036854775808 := by decide
    simp only [signlessC, h63]
    rw [if_neg (by omega)]
end Go.Proofs.YtodhmbnfliajiaaDoor.Q
