/- An operation hangs on its operands alone; what comes of operations in any order, in plain words. -/
import Derived.Test.YtifcganfcjildaaGreatDoorE36
namespace Go.Proofs.YtifcganfcjildaaGreatDoor.E
open Go Go.RowKit
set_option linter.unusedVariables false
set_option linter.unusedSimpArgs false
set_option linter.unnecessarySimpa false
noncomputable section

section
variable {T T' : Temps}
theorem evOs_congr : ∀ {l : List Operand}, (∀ x ∈ l, evO T x = evO T' x) → evOs T l = evOs T' l
  | [], _ => rfl
  | x :: l, h => by unfold evOs; rw [h x (by simp), evOs_congr fun y hy => h y (by simp [hy])]
theorem evPs_congr : ∀ {l : List (Nat × Operand)}, (∀ p ∈ l, evO T p.2 = evO T' p.2) → evPs T l = evPs T' l
  | [], _ => rfl
  | (i, x) :: l, h => by unfold evPs; rw [h (i, x) (by simp), evPs_congr fun y hy => h y (by simp [hy])]
theorem boundO_congr {x : Option Operand} (h : ∀ y ∈ x, evO T y = evO T' y) (d hi : Nat) : boundO T d hi x = boundO T' d hi x := by
  cases x with
  | none => rfl
  | some y => simp only [boundO, h y rfl]
theorem evOp_congr {X : Ctx} {o : Op} (h : ∀ x ∈ o.operands, evO T x = evO T' x) : evOp X T o = evOp X T' o := by
  cases o <;> simp only [Op.operands, List.mem_toArray, Array.mem_append, List.mem_map, Array.mem_toList_iff] at h <;> try rfl
  case build t ps => simp only [evOp, ev_build, ev_buildSlice, ev_makeFunc]; rw [evPs_congr (T' := T') fun p hp => h _ ⟨p, by simpa using hp, rfl⟩]
  case buildSlice t n ps => simp only [evOp, ev_build, ev_buildSlice, ev_makeFunc]; rw [evPs_congr (T' := T') fun p hp => h _ ⟨p, by simpa using hp, rfl⟩]
  case makeFunc f x y => simp only [evOp, ev_build, ev_buildSlice, ev_makeFunc]; rw [evOs_congr (T' := T') fun z hz => h z (.inl (by simpa using hz)), evOs_congr (T' := T') fun z hz => h z (.inr (by simpa using hz))]
  case call c =>
    obtain ⟨callee, args, ats⟩ := c
    simp only [evOp, callA]
    have ha : evOs T args.toList = evOs T' args.toList := evOs_congr fun z hz => h z (by simp [Call.operands]; right; simpa using hz)
    rw [ha]
    cases callee with
    | value f => dsimp only; rw [h f (by simp [Call.operands])]
    | builtin b => cases b <;> rfl
    | invoke r n => rfl
  case slice t x lo hi mx =>
    simp only [evOp, ev_slice, with1]
    rw [h x (by simp)]
    have h1 : ∀ d n, boundO T d n lo = boundO T' d n lo := boundO_congr fun y hy => h y (by simp at hy; simp [hy])
    have h2 : ∀ d n, boundO T d n hi = boundO T' d n hi := boundO_congr fun y hy => h y (by simp at hy; simp [hy])
    have h3 : ∀ d n, boundO T d n mx = boundO T' d n mx := boundO_congr fun y hy => h y (by simp at hy; simp [hy])
    have h4 : ∀ P t a, sliceA P T t a lo hi mx = sliceA P T' t a lo hi mx := by intro P t a; unfold sliceA; simp only [h1, h2, h3]
    have h5 : ∀ P k e b off, sliceArr P T k e b off lo hi mx = sliceArr P T' k e b off lo hi mx := by intro P k e b off; unfold sliceArr; simp only [h1, h2, h3]
    have h6 : ∀ P t a, sliceU P T t a lo hi mx = sliceU P T' t a lo hi mx := by intro P t a; unfold sliceU; simp only [h1, h2, h3]
    simp only [h4, h5, h6]
  all_goals simp only [List.mem_cons, List.not_mem_nil, or_false, forall_eq_or_imp, forall_eq] at h; simp only [evOp, ev_pick, ev_alloc, ev_box, ev_build, ev_buildSlice, ev_load, ev_store, ev_nilCheck, ev_binOp, ev_unOp, ev_convert, ev_makeInterface, ev_makeFunc, ev_makeMap, ev_makeSlice, ev_slice, ev_fieldAddr, ev_field, ev_indexAddr, ev_index, ev_lookup, ev_mapUpdate, ev_mapEntry, ev_entryStore, ev_range, ev_next, ev_typeAssert, ev_extract, ev_panic, with1, with2, with3, h]
theorem opA_congr {X : Ctx} {rec : AF → Fr Fin} {o : Oper} (h : ∀ x ∈ o.op.operands, evO T x = evO T' x) : opA X rec T o = opA X rec T' o := by
  unfold opA; rw [evOp_congr h]
end
/-! ### Operations in any order -/
section
variable {L V : Type} (σ : Nat → L → V) (Wr : Nat → L → Bool)
/-- What comes of some of the operations: of each place the last word. -/
def lastv (S : Nat → Bool) : Nat → L → V
  | 0, h => σ 0 h
  | i + 1, h => if S i = true ∧ Wr i h = true then σ (i + 1) h else lastv S i h
variable {σ Wr} {m : Nat} (hfr : ∀ i, i < m → ∀ h, Wr i h = false → σ (i + 1) h = σ i h)
include hfr
theorem lastv_upto {S : Nat → Bool} {h : L} : ∀ {j : Nat}, j ≤ m → (∀ i, i < j → Wr i h = true → S i = true) → lastv σ Wr S j h = σ j h
  | 0, _, _ => rfl
  | j + 1, hj, hS => by
    unfold lastv
    split
    · rfl
    · next c =>
      rw [lastv_upto (by omega) fun i hi hw => hS i (by omega) hw]
      refine (hfr j (by omega) h ?_).symm
      cases hw : Wr j h with
      | false => rfl
      | true => exact absurd ⟨hS j (by omega) hw, hw⟩ c
omit hfr in
theorem lastv_stay {S : Nat → Bool} {h : L} {j : Nat} : ∀ {k : Nat}, j ≤ k → (∀ i, j ≤ i → i < k → Wr i h = true → S i = false) → lastv σ Wr S k h = lastv σ Wr S j h
  | 0, hk, _ => by
    have : j = 0 := by omega
    subst this; rfl
  | k + 1, hk, hS => by
    by_cases c : j = k + 1
    · subst c; rfl
    · show (if S k = true ∧ Wr k h = true then σ (k + 1) h else lastv σ Wr S k h) = _
      rw [if_neg, lastv_stay (by omega) fun i h1 h2 h3 => hS i h1 (by omega) h3]
      rintro ⟨h1, h2⟩
      rw [hS k (by omega) (by omega) h2] at h1
      cases h1
theorem lastv_agree {S : Nat → Bool} {h : L} {j : Nat} (hj : j < m) (hSj : S j = false) (h1 : ∀ i, i < j → Wr i h = true → S i = true) (h2 : ∀ k, j < k → k < m → Wr k h = true → S k = false) : lastv σ Wr S m h = σ j h := by
  rw [lastv_stay (j := j) (by omega) fun i a b c => ?_, lastv_upto hfr (by omega) h1]
  by_cases e : i = j
  · subst e; exact hSj
  · exact h2 i (by omega) b c
omit hfr in
theorem lastv_add {S S' : Nat → Bool} {h : L} {j : Nat} (hj : j < m) (hS' : ∀ i, S' i = (S i || decide (i = j))) (hSj : S j = false) (h2 : Wr j h = true → ∀ k, j < k → k < m → Wr k h = true → S k = false) :
    lastv σ Wr S' m h = if Wr j h = true then σ (j + 1) h else lastv σ Wr S m h := by
  have lo : ∀ k, k ≤ j → lastv σ Wr S' k h = lastv σ Wr S k h := by
    intro k
    induction k with
    | zero => intro _; rfl
    | succ k ih =>
      intro hk
      unfold lastv
      have : S' k = S k := by rw [hS']; have : k ≠ j := by omega
                              simp [this]
      rw [this, ih (by omega)]
  have hi : ∀ k, j + 1 ≤ k → k ≤ m → lastv σ Wr S' k h = if Wr j h = true then σ (j + 1) h else lastv σ Wr S k h := by
    intro k
    induction k with
    | zero => intro a _; omega
    | succ k ih =>
      intro a b
      by_cases c : k = j
      · subst c
        unfold lastv
        have : S' k = true := by rw [hS']; simp
        rw [this, hSj, lo k (by omega)]
        simp
      · have hk := ih (by omega) (by omega)
        unfold lastv
        have : S' k = S k := by rw [hS']; simp [c]
        rw [this, hk]
        by_cases w : Wr j h = true
        · by_cases wk : Wr k h = true
          · rw [h2 w k (by omega) (by omega) wk]; simp [w]
          · simp [w, wk]
        · simp [w]
  exact hi m (by omega) (by omega)
theorem lastv_all {S : Nat → Bool} (hS : ∀ i, i < m → S i = true) (h : L) : lastv σ Wr S m h = σ m h := lastv_upto hfr (by omega) fun i hi _ => hS i hi
end
end
end Go.Proofs.YtifcganfcjildaaGreatDoor.E
