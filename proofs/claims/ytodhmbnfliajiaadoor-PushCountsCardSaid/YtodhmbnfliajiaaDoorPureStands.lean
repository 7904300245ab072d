/- PureStands: a text of this claim's proof, as printed or written, without what the claim does not use. -/
import Derived.Shelf.GgClosure.StringsIndexFunc
import Derived.Test.YtodhmbnfliajiaaDoorPureTok
import Derived.Test.YtodhmbnfliajiaaDoorJ6
import Derived.Test.YtodhmbnfliajiaaDoorQx0
namespace Go.Proofs.YtodhmbnfliajiaaDoor.Q
open Go.RowKit Go.Lib Go.Proofs.YtodhmbnfliajiaaDoorW.PrintWords Go.Proofs.YtodhmbnfliajiaaDoorW.PrintLast Go.Proofs.YtodhmbnfliajiaaDoorW.PrintMore
def isOp (b : UInt8) : Bool := decide (b.toNat = 60 ∨ b.toNat = 62 ∨ b.toNat = 61)
def noOp (r : Nat) : Bool := decide (r ≠ 60 ∧ r ≠ 62 ∧ r ≠ 61)
def noDigit (r : Nat) : Bool := decide (r < 48) || decide (57 < r)
theorem get_list (s : ByteArray) (j : Nat) (h : j < s.data.toList.length) : s.get! j = s.data.toList[j] := by
  have h1 : j < s.data.size := by simpa using h
  show s.data[j]! = _
  rw [getElem!_pos s.data j h1]; simp
theorem idx_ops (s : ByteArray) : ∀ (f pos : Nat), s.size - pos ≤ f → idxFuncFrom noOp true s f pos = if (s.data.toList.drop pos).dropWhile isOp = [] then -1 else ((pos + ((s.data.toList.drop pos).takeWhile isOp).length : Nat) : Int)
  | 0, pos, h => by
    have : s.data.toList.drop pos = [] := List.drop_eq_nil_of_le (by simp; have : s.data.size = s.size := rfl; omega)
    rw [this]; rfl
  | f + 1, pos, h => by
    unfold idxFuncFrom
    by_cases hp : pos < s.size
    · have hl : pos < s.data.toList.length := by simpa using hp
      rw [if_pos hp, List.drop_eq_getElem_cons hl, ← get_list s pos hl]
      by_cases hd : (s.get! pos).toNat = 60 ∨ (s.get! pos).toNat = 62 ∨ (s.get! pos).toNat = 61
      · have hg : isOp (s.get! pos) = true := decide_eq_true hd
        rw [decode_ascii s pos (by omega)]
        rw [if_neg (by unfold noOp; rw [decide_eq_false (by omega)]; decide), idx_ops s f (pos + 1) (by omega)]
        rw [List.dropWhile_cons_of_pos hg, List.takeWhile_cons_of_pos hg]
        split
        · rfl
        · simp only [List.length_cons]; omega
      · have hn : noOp (Utf8.decode s pos).1 = true := by
          unfold noOp
          rw [decide_eq_true_eq, Go.Lib.decode_at]
          generalize (s.get! pos).toNat = b0 at *
          unfold Go.Lib.decodeN
          repeat' split
          all_goals (simp only; omega)
        have hg : isOp (s.get! pos) = false := decide_eq_false hd
        rw [if_pos hn]
        rw [List.dropWhile_cons_of_neg (by rw [hg]; decide), List.takeWhile_cons_of_neg (by rw [hg]; decide), if_neg (by simp)]
        simp
    · have : s.data.toList.drop pos = [] := List.drop_eq_nil_of_le (by simp; have : s.data.size = s.size := rfl; omega)
      rw [if_neg hp, this]; rfl
theorem idx_digits (s : ByteArray) : ∀ (f pos : Nat), s.size - pos ≤ f → (0 ≤ idxFuncFrom noDigit true s f pos ↔ (s.data.toList.drop pos).all isD = false)
  | 0, pos, h => by
    have : s.data.toList.drop pos = [] := List.drop_eq_nil_of_le (by simp; have : s.data.size = s.size := rfl; omega)
    rw [this]; unfold idxFuncFrom; simp
  | f + 1, pos, h => by
    unfold idxFuncFrom
    by_cases hp : pos < s.size
    · have hl : pos < s.data.toList.length := by simpa using hp
      rw [if_pos hp, List.drop_eq_getElem_cons hl, ← get_list s pos hl, List.all_cons]
      by_cases hd : 48 ≤ (s.get! pos).toNat ∧ (s.get! pos).toNat ≤ 57
      · have hg : isD (s.get! pos) = true := decide_eq_true hd
        rw [decode_ascii s pos (by omega), hg]
        rw [if_neg (by unfold noDigit; rw [decide_eq_false (by omega), decide_eq_false (by omega)]; decide), idx_digits s f (pos + 1) (by omega)]
        simp
      · have hn : noDigit (Utf8.decode s pos).1 = true := by
          unfold noDigit
          rw [Bool.or_eq_true, decide_eq_true_eq, decide_eq_true_eq, Go.Lib.decode_at]
          generalize (s.get! pos).toNat = b0 at *
          unfold Go.Lib.decodeN
          repeat' split
          all_goals (simp only; omega)
        have hg : isD (s.get! pos) = false := decide_eq_false hd
        rw [if_pos hn, hg]
        simp
    · have : s.data.toList.drop pos = [] := List.drop_eq_nil_of_le (by simp; have : s.data.size = s.size := rfl; omega)
      rw [if_neg hp, this]; simp
def dig9 (l : List UInt8) : Option Nat := if l ≠ [] ∧ l.length ≤ 9 ∧ l.all isD = true then some (dval 0 l) else none
def cmpOp (o : List UInt8) (n m : Int) : Bool :=
  if o = [] ∨ o = [61, 61] then decide (n = m) else if o = [60] then decide (n < m) else if o = [62] then decide (m < n) else if o = [60, 61] then decide (n ≤ m) else if o = [62, 61] then decide (m ≤ n) else false
def standsL (l : List UInt8) (n : Int) : Bool := match dig9 (l.dropWhile isOp) with | none => false | some m => cmpOp (l.takeWhile isOp) n (m : Int)
def standsB (p : ByteArray) (n : Int) : Bool := standsL p.data.toList n
end Go.Proofs.YtodhmbnfliajiaaDoor.Q
