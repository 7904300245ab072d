/- A region of operations, whatever their order: what one does behind some of the others. -/
import Derived.Orders
import Derived.Test.YtifcganfcjildaaGreatDoorE38
namespace Go.Proofs.YtifcganfcjildaaGreatDoor.E
open Go Go.RowKit
set_option linter.unusedVariables false
set_option linter.unusedSimpArgs false
set_option linter.unnecessarySimpa false
noncomputable section

theorem forB_spec {p : Nat → Bool} : ∀ {n : Nat}, forB p n = true → ∀ i, i < n → p i = true
  | 0, _, i, h => by omega
  | n + 1, h, i, hi => by
    unfold forB at h
    cases hp : p n with
    | false => rw [hp] at h; cases h
    | true =>
      rw [hp] at h
      by_cases c : i = n
      · subst c; exact hp
      · exact forB_spec h i (by omega)
theorem blockMask_bit (a b h : Nat) : (blockMask a b).testBit h = (decide (a ≤ h) && decide (h < b)) := by
  unfold blockMask
  rw [Nat.testBit_mul_two_pow, Nat.testBit_two_pow_sub_one]
  by_cases c : a ≤ h
  · simp only [c, decide_true, Bool.true_and]
    rw [Bool.eq_iff_iff]; simp; omega
  · simp [c]
theorem meet_bit {a b c d : Nat} (h : (a &&& (b ||| c)) ||| (d &&& c) = 0) (i : Nat) : (a.testBit i = true → (b.testBit i = false ∧ c.testBit i = false)) ∧ (d.testBit i = true → c.testBit i = false) := by
  have h1 : ((a &&& (b ||| c)) ||| (d &&& c)).testBit i = false := by rw [h]; simp
  simp only [Nat.testBit_or, Nat.testBit_and] at h1
  clear h
  revert h1
  generalize a.testBit i = p
  generalize b.testBit i = q
  generalize c.testBit i = r
  generalize d.testBit i = u
  cases p <;> cases q <;> cases r <;> cases u <;> simp
section
variable {X : Ctx} {rec : AF → Fr Fin} {N : Nat} {ops : Array Oper} {c : Temps × HS}
/-- What an operation's turn is. -/
theorem one_inv {j : Nat} (h : (oneC X rec N ops j (cn X rec N ops c j)).isSome = true) : ∃ o, ops[j]? = some o ∧
    ((wantedA ops (cn X rec N ops c j).1 o = some false ∧ putT N (cn X rec N ops c j).1 o.dst .nop = some (cn X rec N ops c (j + 1)).1 ∧ (cn X rec N ops c (j + 1)).2 = (cn X rec N ops c j).2 ∧ rm X rec N ops c j = 0 ∧ wm X rec N ops c j = 0) ∨
     (∃ v s1, wantedA ops (cn X rec N ops c j).1 o = some true ∧ (opA X rec (cn X rec N ops c j).1 o).run (cn X rec N ops c j).2 = some (.val v, s1) ∧ putT N (cn X rec N ops c j).1 o.dst v = some (cn X rec N ops c (j + 1)).1 ∧ (cn X rec N ops c (j + 1)).2 = nrm s1 ∧
        rm X rec N ops c j = s1.rd ∧ wm X rec N ops c j = s1.wr ||| blockMask (cn X rec N ops c j).2.next s1.next)) := by
  cases ho : ops[j]? with
  | none => simp only [oneC, ho] at h; cases h
  | some o =>
    refine ⟨o, rfl, ?_⟩
    cases hw : wantedA ops (cn X rec N ops c j).1 o with
    | none => simp only [oneC, ho, hw] at h; cases h
    | some b =>
      cases b with
      | false =>
        left
        cases hp : putT N (cn X rec N ops c j).1 o.dst .nop with
        | none => simp only [oneC, ho, hw, hp] at h; cases h
        | some T' =>
          have hone : oneC X rec N ops j (cn X rec N ops c j) = some (T', (cn X rec N ops c j).2, 0, 0) := by simp only [oneC, ho, hw, hp]
          exact ⟨rfl, by simp only [cn, hone], by simp only [cn, hone], by simp only [rm, hone], by simp only [wm, hone]⟩
      | true =>
        right
        cases hr : (opA X rec (cn X rec N ops c j).1 o).run (cn X rec N ops c j).2 with
        | none => simp only [oneC, ho, hw, hr] at h; cases h
        | some p =>
          obtain ⟨r, s1⟩ := p
          cases r with
          | pan ch => simp only [oneC, ho, hw, hr] at h; cases h
          | val v =>
            cases hp : putT N (cn X rec N ops c j).1 o.dst v with
            | none => simp only [oneC, ho, hw, hr, hp] at h; cases h
            | some T' =>
              have hone : oneC X rec N ops j (cn X rec N ops c j) = some (T', nrm s1, s1.rd, s1.wr ||| blockMask (cn X rec N ops c j).2.next s1.next) := by simp only [oneC, ho, hw, hr, hp]
              exact ⟨v, s1, rfl, rfl, by simp only [cn, hone]; exact hp, by simp only [cn, hone], by simp only [rm, hone], by simp only [wm, hone]⟩
theorem cn_nrm (hc : c.2.rd = 0 ∧ c.2.wr = 0) (j : Nat) : (cn X rec N ops c j).2.rd = 0 ∧ (cn X rec N ops c j).2.wr = 0 := by
  induction j with
  | zero => exact hc
  | succ j ih =>
    cases h : oneC X rec N ops j (cn X rec N ops c j) with
    | none => simp only [cn, h]; exact ih
    | some p =>
      obtain ⟨o, ho, h1 | ⟨v, s1, _, _, _, h4, _⟩⟩ := one_inv (X := X) (rec := rec) (N := N) (ops := ops) (c := c) (j := j) (by rw [h]; rfl)
      · rw [h1.2.2.1]; exact ih
      · rw [h4]; exact ⟨rfl, rfl⟩
theorem putT_get {T T' : Temps} {dst : Option Tmp} {v : AV} (h : putT N T dst v = some T') (t : Tmp) : T'.get t = if dst = some t then some v else T.get t := by
  cases dst with
  | none => obtain rfl := Option.some.inj h; simp
  | some d =>
    unfold putT at h
    dsimp only at h
    cases hb : Nat.blt d N with
    | false => rw [hb] at h; cases h
    | true =>
      rw [hb] at h
      dsimp only [cd] at h
      rw [AV.seq_eq] at h
      rw [Tr.get_put h]
      by_cases e : t = d
      · subst e; simp
      · rw [if_neg e, if_neg]; intro h2; exact e (Option.some.inj h2).symm
theorem putT_some {T T' U : Temps} {dst : Option Tmp} {v : AV} (h : putT N T dst v = some T') : ∃ U', putT N U dst v = some U' := by
  cases dst with
  | none => exact ⟨U, rfl⟩
  | some d =>
    unfold putT at h ⊢
    dsimp only at h ⊢
    cases hb : Nat.blt d N with
    | false => rw [hb] at h; cases h
    | true =>
      rw [hb] at h
      dsimp only [cd] at h ⊢
      rw [AV.seq_eq] at h ⊢
      exact Tr.put_some U (Tr.put_lt h) (some v)
def dstAt (ops : Array Oper) (j : Nat) : Option Tmp := match ops[j]? with
  | none => none
  | some o => o.dst
/-- The last word of temporaries, of names. -/
def WrT (ops : Array Oper) (j : Nat) (t : Tmp) : Bool := decide (dstAt ops j = some t)
def WrH (X : Ctx) (rec : AF → Fr Fin) (N : Nat) (ops : Array Oper) (c : Temps × HS) (j h : Nat) : Bool := (wm X rec N ops c j).testBit h
def sgT (X : Ctx) (rec : AF → Fr Fin) (N : Nat) (ops : Array Oper) (c : Temps × HS) (j : Nat) (t : Tmp) : Option AV := (cn X rec N ops c j).1.get t
def sgH (X : Ctx) (rec : AF → Fr Fin) (N : Nat) (ops : Array Oper) (c : Temps × HS) (j h : Nat) : Option AO := (cn X rec N ops c j).2.heap.get h
variable {m : Nat} (hg : ∀ i, i < m → (oneC X rec N ops i (cn X rec N ops c i)).isSome = true)
include hg
theorem sgT_frame (i : Nat) (hi : i < m) (t : Tmp) (h : WrT ops i t = false) : sgT X rec N ops c (i + 1) t = sgT X rec N ops c i t := by
  obtain ⟨o, ho, h1⟩ := one_inv (hg i hi)
  have hd : o.dst ≠ some t := by
    simp only [WrT, dstAt, ho, decide_eq_false_iff_not] at h; exact h
  unfold sgT
  rcases h1 with ⟨_, h2, _⟩ | ⟨v, s1, _, _, h2, _⟩
  · rw [putT_get h2, if_neg hd]
  · rw [putT_get h2, if_neg hd]
theorem sgH_frame (i : Nat) (hi : i < m) (h : Nat) (hw : WrH X rec N ops c i h = false) : sgH X rec N ops c (i + 1) h = sgH X rec N ops c i h := by
  obtain ⟨o, ho, h1⟩ := one_inv (hg i hi)
  unfold sgH
  rcases h1 with ⟨_, _, h2, _⟩ | ⟨v, s1, _, h2, _, h3, h4, h5⟩
  · rw [h2]
  · rw [h3]
    unfold WrH at hw
    rw [h5, Nat.testBit_or, Bool.or_eq_false_iff, blockMask_bit] at hw
    obtain ⟨l1, r, w, p1, q1, f1, _⟩ := (opA X rec (cn X rec N ops c i).1 o).ok _ _ _ h2
    refine f1 h ?_ ?_
    · have := hw.2
      simp at this
      omega
    · have := hw.1
      rw [q1, Nat.testBit_or, Bool.or_eq_false_iff] at this
      exact this.2
theorem nx_mono : ∀ i, i ≤ m → ∀ j, j ≤ i → (cn X rec N ops c j).2.next ≤ (cn X rec N ops c i).2.next := by
  intro i
  induction i with
  | zero => intro _ j hj; obtain rfl : j = 0 := by omega
            exact Nat.le_refl _
  | succ i ih =>
    intro hi j hj
    by_cases e : j = i + 1
    · subst e; exact Nat.le_refl _
    · refine Nat.le_trans (ih (by omega) j (by omega)) ?_
      obtain ⟨o, ho, h1⟩ := one_inv (hg i (by omega))
      rcases h1 with ⟨_, _, h2, _⟩ | ⟨v, s1, _, h2, _, h3, _⟩
      · rw [h2]; exact Nat.le_refl _
      · rw [h3]; exact ((opA X rec (cn X rec N ops c i).1 o).ok _ _ _ h2).le
theorem free_at (hc : c.2.rd = 0 ∧ c.2.wr = 0) {B : Nat} (hB : (cn X rec N ops c m).2.next ≤ B) (h0 : ∀ h, c.2.next ≤ h → h < B → c.2.heap.get h = none) : ∀ j, j ≤ m → ∀ h, (cn X rec N ops c j).2.next ≤ h → h < B → sgH X rec N ops c j h = none := by
  intro j
  induction j with
  | zero => exact fun _ h a b => h0 h a b
  | succ j ih =>
    intro hj h a b
    have hmono := nx_mono hg (j + 1) hj j (by omega)
    have hprev := ih (by omega) h (by omega) b
    rw [sgH_frame hg j (by omega) h, hprev]
    obtain ⟨o, ho, h1⟩ := one_inv (hg j (by omega))
    unfold WrH
    rcases h1 with ⟨_, _, h2, _, h3⟩ | ⟨v, s1, _, h2, _, h3, h4, h5⟩
    · rw [h3]; simp
    · rw [h5, Nat.testBit_or, blockMask_bit]
      have hn : s1.next ≤ h := by rw [h3] at a; exact a
      obtain ⟨l1, r, w, p1, q1, f1, n1, _⟩ := (opA X rec (cn X rec N ops c j).1 o).ok _ _ _ h2
      have hnl : ¬ h < s1.next := by omega
      simp only [hnl, decide_false, Bool.and_false, Bool.or_false]
      rw [q1, (cn_nrm hc j).2, Nat.zero_or]
      cases hw : w.testBit h with
      | false => rfl
      | true => exact absurd hprev (n1 h (.inr hn) hw)
end
end
end Go.Proofs.YtifcganfcjildaaGreatDoor.E
