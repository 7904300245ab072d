/- Merged out of: OpensJ, PureFold, PureStands. -/
import Derived.Test.YtodhmbnfliajiaaGreatDoorOpens
import Derived.Test.YtodhmbnfliajiaaGreatDoorQx0
import Derived.Test.YtodhmbnfliajiaaGreatDoorJ9
import Derived.Test.YtodhmbnfliajiaaGreatDoorJ7
import Derived.Shelf.GgClosure.StringsIndexFunc
import Derived.Test.YtodhmbnfliajiaaGreatDoorJ10
/- OpensJ: a text of this claim's proof, as printed or written, without what the claim does not use. -/
namespace Go.Proofs.YtodhmbnfliajiaaGreatDoor.OpensJ
open Go.RowKit Go.Proofs.YtodhmbnfliajiaaGreatDoorW.PrintWords Go.Proofs.YtodhmbnfliajiaaGreatDoor.Opens Go.Proofs.YtodhmbnfliajiaaGreatDoor.Q
theorem step (fuel : Nat) (d : Kd S27) (hd : d.sz = 5) (h : ∀ m, m ≤ fuel → At Tryz.prog 27 d (fun _ => True) m) : At Tryz.prog 27 (F27 d) (fun _ => True) (fuel + 1) := by
  have hs1 : At Tryz.prog 24 (Kd.slice 9 Kd.string) (fun _ => True) fuel := by
    cases fuel with
    | zero => exact zero
    | succ m => exact mono_wf (slice Tryz.underlying24 (by kernel_rfl) (string Tryz.underlying9)) (fun _ _ => trivial)
  have hs2 : At Tryz.prog 25 (Kd.slice 27 d) (fun _ => True) fuel := by
    cases fuel with
    | zero => exact zero
    | succ m => exact mono_wf (slice Tryz.underlying25 (by rw [hd]; kernel_rfl) (h m (by omega))) (fun _ _ => trivial)
  exact mono_wf (struct Tryz.underlying27 (by kernel_rfl) (fields_cons (int Tryz.underlying3) (by kernel_rfl) (fields_cons (int Tryz.underlying2) (by kernel_rfl) (fields_cons (string Tryz.underlying9) (by kernel_rfl) (fields_cons hs1 (by kernel_rfl) (fields_one hs2 (by kernel_rfl)))))) (fun x : S27 => (x.f0, x.f1, x.f2, x.f3, x.f4)) (fun y => ⟨y.1, y.2.1, y.2.2.1, y.2.2.2.1, y.2.2.2.2⟩) (fun _ => rfl)) (fun _ _ => trivial)
theorem upto : ∀ (fuel k : Nat), fuel ≤ k → At Tryz.prog 27 (Kd.upto F27 5 [9, 27] k) (fun _ => True) fuel
  | 0, _, _ => zero
  | fuel + 1, k, h => by
    obtain ⟨k, rfl⟩ : ∃ j, k = j + 1 := ⟨k - 1, by omega⟩
    exact step fuel _ (sz27 k) (fun m hm => upto m k (by omega))
theorem opens (fuel : Nat) : At Tryz.prog 27 k27 (fun _ => True) fuel := fix_ (fun fuel => upto fuel fuel (Nat.le_refl _)) fuel
end Go.Proofs.YtodhmbnfliajiaaGreatDoor.OpensJ

/- PureFold: a text of this claim's proof, as printed or written, without what the claim does not use. -/
namespace Go.Proofs.YtodhmbnfliajiaaGreatDoor.Q
open Go.RowKit Go.Proofs.YtodhmbnfliajiaaGreatDoorW.PrintWords Go.Proofs.YtodhmbnfliajiaaGreatDoorW.PrintLast Go.Proofs.YtodhmbnfliajiaaGreatDoorW.PrintMore
theorem Width.max {rn : Int} {d : Nat} (h : Width rn d) : mx 1 rn = (d : Int) := by
  unfold mx
  rcases h with ⟨h1, h2⟩ | ⟨h1, h2⟩
  · rw [if_neg (by omega)]; omega
  · by_cases h3 : 1 < rn
    · rw [if_pos h3]; exact h1
    · rw [if_neg h3]; omega
theorem decode_ascii (s : ByteArray) (i : Nat) (h : (s.get! i).toNat < 128) : Utf8.decode s i = ((s.get! i).toNat, 1) := by
  rw [Go.Lib.decode_at]; unfold Go.Lib.decodeN; rw [if_pos h]
def foldB (p s : ByteArray) : Bool := gM ((gletters p).map glow) ((gletters s).map glow)
theorem glob_Fold_f (p s : ByteArray) (hp : p.size ≤ 1000000000) (hs : s.size ≤ 1000000000) : ∃ K, glob_Fold.f K p s = some (foldB p s) := by
  have lp := gletters_len p
  have ls := gletters_len s
  obtain ⟨K, h⟩ := glob_match_f ((gletters p).map glow) ((gletters s).map glow) (by rw [List.length_map]; omega) (by rw [List.length_map]; omega)
  refine ⟨K, ?_⟩
  unfold glob_Fold.f
  rw [if_neg (by omega), if_neg (by omega)]
  exact h
end Go.Proofs.YtodhmbnfliajiaaGreatDoor.Q

/- PureStands: a text of this claim's proof, as printed or written, without what the claim does not use. -/
namespace Go.Proofs.YtodhmbnfliajiaaGreatDoor.Q
open Go.RowKit Go.Lib Go.Proofs.YtodhmbnfliajiaaGreatDoorW.PrintWords Go.Proofs.YtodhmbnfliajiaaGreatDoorW.PrintLast Go.Proofs.YtodhmbnfliajiaaGreatDoorW.PrintMore
def isOp (b : UInt8) : Bool := decide (b.toNat = 60 ∨ b.toNat = 62 ∨ b.toNat = 61)
def noOp (r : Nat) : Bool := decide (r ≠ 60 ∧ r ≠ 62 ∧ r ≠ 61)
def noDigit (r : Nat) : Bool := decide (r < 48) || decide (57 < r)
theorem get_list (s : ByteArray) (j : Nat) (h : j < s.data.toList.length) : s.get! j = s.data.toList[j] := by
  have h1 : j < s.data.size := by simpa using h
  show s.data[j]! = _
  rw [getElem!_pos s.data j h1]; simp
theorem idx_ops (s : ByteArray) : ∀ (f pos : Nat), s.size - pos ≤ f → idxFuncFrom noOp true s f pos = if (s.data.toList.drop pos).dropWhile isOp = [] then -1 else ((pos + ((s.data.toList.drop pos).takeWhile isOp).length : Nat) : Int)
  | 0, pos, h => by
    have : s.data.toList.drop pos = [] := List.drop_eq_nil_of_le (by simp; have : s.data.size = s.size := rfl; omega)
    rw [this]; rfl
  | f + 1, pos, h => by
    unfold idxFuncFrom
    by_cases hp : pos < s.size
    · have hl : pos < s.data.toList.length := by simpa using hp
      rw [if_pos hp, List.drop_eq_getElem_cons hl, ← get_list s pos hl]
      by_cases hd : (s.get! pos).toNat = 60 ∨ (s.get! pos).toNat = 62 ∨ (s.get! pos).toNat = 61
      · have hg : isOp (s.get! pos) = true := decide_eq_true hd
        rw [decode_ascii s pos (by omega)]
        rw [if_neg (by unfold noOp; rw [decide_eq_false (by omega)]; decide), idx_ops s f (pos + 1) (by omega)]
        rw [List.dropWhile_cons_of_pos hg, List.takeWhile_cons_of_pos hg]
        split
        · rfl
        · simp only [List.length_cons]; omega
      · have hn : noOp (Utf8.decode s pos).1 = true := by
          unfold noOp
          rw [decide_eq_true_eq, Go.Lib.decode_at]
          generalize (s.get! pos).toNat = b0 at *
          unfold Go.Lib.decodeN
          repeat' split
          all_goals (simp only; omega)
        have hg : isOp (s.get! pos) = false := decide_eq_false hd
        rw [if_pos hn]
        rw [List.dropWhile_cons_of_neg (by rw [hg]; decide), List.takeWhile_cons_of_neg (by rw [hg]; decide), if_neg (by simp)]
        simp
    · have : s.data.toList.drop pos = [] := List.drop_eq_nil_of_le (by simp; have : s.data.size = s.size := rfl; omega)
      rw [if_neg hp, this]; rfl
theorem idx_digits (s : ByteArray) : ∀ (f pos : Nat), s.size - pos ≤ f → (0 ≤ idxFuncFrom noDigit true s f pos ↔ (s.data.toList.drop pos).all isD = false)
  | 0, pos, h => by
    have : s.data.toList.drop pos = [] := List.drop_eq_nil_of_le (by simp; have : s.data.size = s.size := rfl; omega)
    rw [this]; unfold idxFuncFrom; simp
  | f + 1, pos, h => by
    unfold idxFuncFrom
    by_cases hp : pos < s.size
    · have hl : pos < s.data.toList.length := by simpa using hp
      rw [if_pos hp, List.drop_eq_getElem_cons hl, ← get_list s pos hl, List.all_cons]
      by_cases hd : 48 ≤ (s.get! pos).toNat ∧ (s.get! pos).toNat ≤ 57
      · have hg : isD (s.get! pos) = true := decide_eq_true hd
        rw [decode_ascii s pos (by omega), hg]
        rw [if_neg (by unfold noDigit; rw [decide_eq_false (by omega), decide_eq_false (by omega)]; decide), idx_digits s f (pos + 1) (by omega)]
        simp
      · have hn : noDigit (Utf8.decode s pos).1 = true := by
          unfold noDigit
          rw [Bool.or_eq_true, decide_eq_true_eq, decide_eq_true_eq, Go.Lib.decode_at]
          generalize (s.get! pos).toNat = b0 at *
          unfold Go.Lib.decodeN
          repeat' split
          all_goals (simp only; omega)
        have hg : isD (s.get! pos) = false := decide_eq_false hd
        rw [if_pos hn, hg]
        simp
    · have : s.data.toList.drop pos = [] := List.drop_eq_nil_of_le (by simp; have : s.data.size = s.size := rfl; omega)
      rw [if_neg hp, this]; simp
def dig9 (l : List UInt8) : Option Nat := if l ≠ [] ∧ l.length ≤ 9 ∧ l.all isD = true then some (dval 0 l) else none
def cmpOp (o : List UInt8) (n m : Int) : Bool :=
  if o = [] ∨ o = [61, 61] then decide (n = m) else if o = [60] then decide (n < m) else if o = [62] then decide (m < n) else if o = [60, 61] then decide (n ≤ m) else if o = [62, 61] then decide (m ≤ n) else false
def standsL (l : List UInt8) (n : Int) : Bool := match dig9 (l.dropWhile isOp) with | none => false | some m => cmpOp (l.takeWhile isOp) n (m : Int)
def standsB (p : ByteArray) (n : Int) : Bool := standsL p.data.toList n
end Go.Proofs.YtodhmbnfliajiaaGreatDoor.Q

