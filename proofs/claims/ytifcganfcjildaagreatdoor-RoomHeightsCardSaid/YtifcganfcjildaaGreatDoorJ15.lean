/- Merged out of: E39, E40. -/
import Derived.Orders
import Derived.Test.YtifcganfcjildaaGreatDoorE38
/- A region of operations, whatever their order: what one does behind some of the others. -/
namespace Go.Proofs.YtifcganfcjildaaGreatDoor.E
open Go Go.RowKit
set_option linter.unusedVariables false
set_option linter.unusedSimpArgs false
set_option linter.unnecessarySimpa false
noncomputable section

theorem forB_spec {p : Nat → Bool} : ∀ {n : Nat}, forB p n = true → ∀ i, i < n → p i = true
  | 0, _, i, h => by omega
  | n + 1, h, i, hi => by
    unfold forB at h
    cases hp : p n with
    | false => rw [hp] at h; cases h
    | true =>
      rw [hp] at h
      by_cases c : i = n
      · subst c; exact hp
      · exact forB_spec h i (by omega)
theorem blockMask_bit (a b h : Nat) : (blockMask a b).testBit h = (decide (a ≤ h) && decide (h < b)) := by
  unfold blockMask
  rw [Nat.testBit_mul_two_pow, Nat.testBit_two_pow_sub_one]
  by_cases c : a ≤ h
  · simp only [c, decide_true, Bool.true_and]
    rw [Bool.eq_iff_iff]; simp; omega
  · simp [c]
theorem meet_bit {a b c d : Nat} (h : (a &&& (b ||| c)) ||| (d &&& c) = 0) (i : Nat) : (a.testBit i = true → (b.testBit i = false ∧ c.testBit i = false)) ∧ (d.testBit i = true → c.testBit i = false) := by
  have h1 : ((a &&& (b ||| c)) ||| (d &&& c)).testBit i = false := by rw [h]; simp
  simp only [Nat.testBit_or, Nat.testBit_and] at h1
  clear h
  revert h1
  generalize a.testBit i = p
  generalize b.testBit i = q
  generalize c.testBit i = r
  generalize d.testBit i = u
  cases p <;> cases q <;> cases r <;> cases u <;> simp
section
variable {X : Ctx} {rec : AF → Fr Fin} {N : Nat} {ops : Array Oper} {c : Temps × HS}
/-- What an operation's turn is. -/
theorem one_inv {j : Nat} (h : (oneC X rec N ops j (cn X rec N ops c j)).isSome = true) : ∃ o, ops[j]? = some o ∧
    ((wantedA ops (cn X rec N ops c j).1 o = some false ∧ putT N (cn X rec N ops c j).1 o.dst .nop = some (cn X rec N ops c (j + 1)).1 ∧ (cn X rec N ops c (j + 1)).2 = (cn X rec N ops c j).2 ∧ rm X rec N ops c j = 0 ∧ wm X rec N ops c j = 0) ∨
     (∃ v s1, wantedA ops (cn X rec N ops c j).1 o = some true ∧ (opA X rec (cn X rec N ops c j).1 o).run (cn X rec N ops c j).2 = some (.val v, s1) ∧ putT N (cn X rec N ops c j).1 o.dst v = some (cn X rec N ops c (j + 1)).1 ∧ (cn X rec N ops c (j + 1)).2 = nrm s1 ∧
        rm X rec N ops c j = s1.rd ∧ wm X rec N ops c j = s1.wr ||| blockMask (cn X rec N ops c j).2.next s1.next)) := by
  cases ho : ops[j]? with
  | none => simp only [oneC, ho] at h; cases h
  | some o =>
    refine ⟨o, rfl, ?_⟩
    cases hw : wantedA ops (cn X rec N ops c j).1 o with
    | none => simp only [oneC, ho, hw] at h; cases h
    | some b =>
      cases b with
      | false =>
        left
        cases hp : putT N (cn X rec N ops c j).1 o.dst .nop with
        | none => simp only [oneC, ho, hw, hp] at h; cases h
        | some T' =>
          have hone : oneC X rec N ops j (cn X rec N ops c j) = some (T', (cn X rec N ops c j).2, 0, 0) := by simp only [oneC, ho, hw, hp]
          exact ⟨rfl, by simp only [cn, hone], by simp only [cn, hone], by simp only [rm, hone], by simp only [wm, hone]⟩
      | true =>
        right
        cases hr : (opA X rec (cn X rec N ops c j).1 o).run (cn X rec N ops c j).2 with
        | none => simp only [oneC, ho, hw, hr] at h; cases h
        | some p =>
          obtain ⟨r, s1⟩ := p
          cases r with
          | pan ch => simp only [oneC, ho, hw, hr] at h; cases h
          | val v =>
            cases hp : putT N (cn X rec N ops c j).1 o.dst v with
            | none => simp only [oneC, ho, hw, hr, hp] at h; cases h
            | some T' =>
              have hone : oneC X rec N ops j (cn X rec N ops c j) = some (T', nrm s1, s1.rd, s1.wr ||| blockMask (cn X rec N ops c j).2.next s1.next) := by simp only [oneC, ho, hw, hr, hp]
              exact ⟨v, s1, rfl, rfl, by simp only [cn, hone]; exact hp, by simp only [cn, hone], by simp only [rm, hone], by simp only [wm, hone]⟩
theorem cn_nrm (hc : c.2.rd = 0 ∧ c.2.wr = 0) (j : Nat) : (cn X rec N ops c j).2.rd = 0 ∧ (cn X rec N ops c j).2.wr = 0 := by
  induction j with
  | zero => exact hc
  | succ j ih =>
    cases h : oneC X rec N ops j (cn X rec N ops c j) with
    | none => simp only [cn, h]; exact ih
    | some p =>
      obtain ⟨o, ho, h1 | ⟨v, s1, _, _, _, h4, _⟩⟩ := one_inv (X := X) (rec := rec) (N := N) (ops := ops) (c := c) (j := j) (by rw [h]; rfl)
      · rw [h1.2.2.1]; exact ih
      · rw [h4]; exact ⟨rfl, rfl⟩
theorem putT_get {T T' : Temps} {dst : Option Tmp} {v : AV} (h : putT N T dst v = some T') (t : Tmp) : T'.get t = if dst = some t then some v else T.get t := by
  cases dst with
  | none => obtain rfl := Option.some.inj h; simp
  | some d =>
    unfold putT at h
    dsimp only at h
    cases hb : Nat.blt d N with
    | false => rw [hb] at h; cases h
    | true =>
      rw [hb] at h
      dsimp only [cd] at h
      rw [AV.seq_eq] at h
      rw [Tr.get_put h]
      by_cases e : t = d
      · subst e; simp
      · rw [if_neg e, if_neg]; intro h2; exact e (Option.some.inj h2).symm
theorem putT_some {T T' U : Temps} {dst : Option Tmp} {v : AV} (h : putT N T dst v = some T') : ∃ U', putT N U dst v = some U' := by
  cases dst with
  | none => exact ⟨U, rfl⟩
  | some d =>
    unfold putT at h ⊢
    dsimp only at h ⊢
    cases hb : Nat.blt d N with
    | false => rw [hb] at h; cases h
    | true =>
      rw [hb] at h
      dsimp only [cd] at h ⊢
      rw [AV.seq_eq] at h ⊢
      exact Tr.put_some U (Tr.put_lt h) (some v)
def dstAt (ops : Array Oper) (j : Nat) : Option Tmp := match ops[j]? with
  | none => none
  | some o => o.dst
/-- The last word of temporaries, of names. -/
def WrT (ops : Array Oper) (j : Nat) (t : Tmp) : Bool := decide (dstAt ops j = some t)
def WrH (X : Ctx) (rec : AF → Fr Fin) (N : Nat) (ops : Array Oper) (c : Temps × HS) (j h : Nat) : Bool := (wm X rec N ops c j).testBit h
def sgT (X : Ctx) (rec : AF → Fr Fin) (N : Nat) (ops : Array Oper) (c : Temps × HS) (j : Nat) (t : Tmp) : Option AV := (cn X rec N ops c j).1.get t
def sgH (X : Ctx) (rec : AF → Fr Fin) (N : Nat) (ops : Array Oper) (c : Temps × HS) (j h : Nat) : Option AO := (cn X rec N ops c j).2.heap.get h
variable {m : Nat} (hg : ∀ i, i < m → (oneC X rec N ops i (cn X rec N ops c i)).isSome = true)
include hg
theorem sgT_frame (i : Nat) (hi : i < m) (t : Tmp) (h : WrT ops i t = false) : sgT X rec N ops c (i + 1) t = sgT X rec N ops c i t := by
  obtain ⟨o, ho, h1⟩ := one_inv (hg i hi)
  have hd : o.dst ≠ some t := by
    simp only [WrT, dstAt, ho, decide_eq_false_iff_not] at h; exact h
  unfold sgT
  rcases h1 with ⟨_, h2, _⟩ | ⟨v, s1, _, _, h2, _⟩
  · rw [putT_get h2, if_neg hd]
  · rw [putT_get h2, if_neg hd]
theorem sgH_frame (i : Nat) (hi : i < m) (h : Nat) (hw : WrH X rec N ops c i h = false) : sgH X rec N ops c (i + 1) h = sgH X rec N ops c i h := by
  obtain ⟨o, ho, h1⟩ := one_inv (hg i hi)
  unfold sgH
  rcases h1 with ⟨_, _, h2, _⟩ | ⟨v, s1, _, h2, _, h3, h4, h5⟩
  · rw [h2]
  · rw [h3]
    unfold WrH at hw
    rw [h5, Nat.testBit_or, Bool.or_eq_false_iff, blockMask_bit] at hw
    obtain ⟨l1, r, w, p1, q1, f1, _⟩ := (opA X rec (cn X rec N ops c i).1 o).ok _ _ _ h2
    refine f1 h ?_ ?_
    · have := hw.2
      simp at this
      omega
    · have := hw.1
      rw [q1, Nat.testBit_or, Bool.or_eq_false_iff] at this
      exact this.2
theorem nx_mono : ∀ i, i ≤ m → ∀ j, j ≤ i → (cn X rec N ops c j).2.next ≤ (cn X rec N ops c i).2.next := by
  intro i
  induction i with
  | zero => intro _ j hj; obtain rfl : j = 0 := by omega
            exact Nat.le_refl _
  | succ i ih =>
    intro hi j hj
    by_cases e : j = i + 1
    · subst e; exact Nat.le_refl _
    · refine Nat.le_trans (ih (by omega) j (by omega)) ?_
      obtain ⟨o, ho, h1⟩ := one_inv (hg i (by omega))
      rcases h1 with ⟨_, _, h2, _⟩ | ⟨v, s1, _, h2, _, h3, _⟩
      · rw [h2]; exact Nat.le_refl _
      · rw [h3]; exact ((opA X rec (cn X rec N ops c i).1 o).ok _ _ _ h2).le
theorem free_at (hc : c.2.rd = 0 ∧ c.2.wr = 0) {B : Nat} (hB : (cn X rec N ops c m).2.next ≤ B) (h0 : ∀ h, c.2.next ≤ h → h < B → c.2.heap.get h = none) : ∀ j, j ≤ m → ∀ h, (cn X rec N ops c j).2.next ≤ h → h < B → sgH X rec N ops c j h = none := by
  intro j
  induction j with
  | zero => exact fun _ h a b => h0 h a b
  | succ j ih =>
    intro hj h a b
    have hmono := nx_mono hg (j + 1) hj j (by omega)
    have hprev := ih (by omega) h (by omega) b
    rw [sgH_frame hg j (by omega) h, hprev]
    obtain ⟨o, ho, h1⟩ := one_inv (hg j (by omega))
    unfold WrH
    rcases h1 with ⟨_, _, h2, _, h3⟩ | ⟨v, s1, _, h2, _, h3, h4, h5⟩
    · rw [h3]; simp
    · rw [h5, Nat.testBit_or, blockMask_bit]
      have hn : s1.next ≤ h := by rw [h3] at a; exact a
      obtain ⟨l1, r, w, p1, q1, f1, n1, _⟩ := (opA X rec (cn X rec N ops c j).1 o).ok _ _ _ h2
      have hnl : ¬ h < s1.next := by omega
      simp only [hnl, decide_false, Bool.and_false, Bool.or_false]
      rw [q1, (cn_nrm hc j).2, Nat.zero_or]
      cases hw : w.testBit h with
      | false => rfl
      | true => exact absurd hprev (n1 h (.inr hn) hw)
end
end
end Go.Proofs.YtifcganfcjildaaGreatDoor.E

/- A region of operations, whatever their order: one more operation's turn. -/
namespace Go.Proofs.YtifcganfcjildaaGreatDoor.E
open Go Go.RowKit
set_option linter.unusedVariables false
set_option linter.unusedSimpArgs false
set_option linter.unnecessarySimpa false
noncomputable section

theorem orderly_spec {ops : Array Oper} (h : orderly ops = true) {j : Nat} {o : Oper} (ho : ops[j]? = some o) :
    ∃ b, (beforeL ops)[j]? = some b ∧ (∀ e ∈ o.after, Region.binds .any e = true → e.on < j) ∧ ∀ i x, i < j → ops[i]? = some x → b.testBit i = true ∨ tmeet ops x o = false := by
  unfold orderly at h
  dsimp only at h
  rw [Bool.and_eq_true] at h
  have hj : j < ops.toList.length := by
    have := (Array.getElem?_eq_some_iff.1 ho).1
    simpa using this
  have hs := forB_spec h.2 j hj
  have ho' : ops.toList[j]? = some o := by simpa using ho
  rw [ho'] at hs
  cases hb : (beforeL ops)[j]? with
  | none => rw [hb] at hs; cases hs
  | some b =>
    rw [hb] at hs
    dsimp only at hs
    rw [Bool.and_eq_true] at hs
    refine ⟨b, rfl, fun e he hbd => ?_, fun i x hi hx => ?_⟩
    · have := hs.1
      rw [Array.all_eq_true_iff_forall_mem] at this
      have := this e he
      rw [hbd] at this
      simp only [Bool.not_true, Bool.false_or, Nat.blt_eq] at this
      exact this
    · have := forB_spec hs.2 i hi
      have hx' : ops.toList[i]? = some x := by simpa using hx
      rw [hx'] at this
      simpa using this
theorem yieldedA_congr {ops : Array Oper} {T T' : Temps} {o : Oper} (h : ∀ t, gdst ops o = some t → T.get t = T'.get t) : wantedA ops T o = wantedA ops T' o := by
  unfold wantedA
  cases hg : o.guard with
  | none => rfl
  | some p =>
    obtain ⟨j, want⟩ := p
    have : yieldedA ops T j = yieldedA ops T' j := by
      unfold yieldedA
      cases ho : ops[j]? with
      | none => rfl
      | some x =>
        cases hd : x.dst with
        | none => simp only [hd]
        | some d =>
          have := h d (by simp only [gdst, hg, ho, hd])
          simp only [hd, this]
    simp only [this]
theorem maskOf_mem {o : Oper} {t : Tmp} (h : Operand.tmp t ∈ o.op.operands) : maskOf o (some t) = true := by
  unfold maskOf
  dsimp only
  rw [List.any_eq_true]
  exact ⟨.tmp t, by simpa using h, Nat.beq_refl t⟩
theorem eqD_refl (t : Tmp) : eqD (some t) (some t) = true := Nat.beq_refl t
section
variable (X : Ctx) (rec : AF → Fr Fin) (N : Nat) (ops : Array Oper) (c : Temps × HS) (m n0 : Nat) (w0 : World) (φ0 : Map) (B : Nat)
/-- What stands while a region runs: some of the operations had their turn. -/
structure Inv (S : Nat → Bool) (φ : Map) (tm : Array Value) (w : World) : Prop where
  closed : Closed ops S
  lt : ∀ i, S i = true → i < m
  TS : ∃ TT : Temps, (∀ t, TT.get t = lastv (sgT X rec N ops c) (WrT ops) S m t) ∧ FRel N φ TT ⟨tm, []⟩
  HS : ∃ tr : Tr AO, (∀ h, tr.get h = lastv (sgH X rec N ops c) (WrH X rec N ops c) S m h) ∧ Rel n0 w0 0 φ ⟨tr, 0, 0, 0⟩ w
  le : φ0.le φ
  out : ∀ h, (h < c.2.next ∨ B ≤ h) → φ h = φ0 h
end
theorem Rel.re {n0 : Nat} {w0 : World} {lm lm' : Nat} {φ : Map} {s s' : HS} {w : World} (h : Rel n0 w0 lm φ s w) (e : ∀ j, s'.heap.get j = s.heap.get j) (hw : ∀ j, s'.next ≤ j → j < lm' → s.heap.get j = none) : Rel n0 w0 lm' φ s' w :=
  ⟨h.below, fun j a b => by rw [e]; exact hw j a b, fun j o ho hl => h.objs j o (by rw [← e]; exact ho) hl, fun j k o o' p p' a b => h.inj j k o o' p p' (by rw [← e]; exact a) (by rw [← e]; exact b), fun j p a => by rw [e]; exact h.dom j p a, h.base⟩
section
variable {X : Ctx} {rec : AF → Fr Fin} {N : Nat} {ops : Array Oper} {c : Temps × HS} {m n0 : Nat} {w0 : World} {φ0 : Map} {B : Nat} {S : Nat → Bool} {φ : Map} {tm : Array Value} {w : World}
variable (hord : orderly ops = true) (hg : ∀ i, i < m → (oneC X rec N ops i (cn X rec N ops c i)).isSome = true) (hcf : ∀ i, i < m → ∀ b, (beforeL ops)[i]? = some b → ∀ i', i' < i → b.testBit i' = true ∨ meetz X rec N ops c i' i)
include hord hg hcf
omit hg hcf in
/-- Whoever meets an operation that is ready had their turn if ahead, and none if behind. -/
theorem ready_meet (hcl : Closed ops S) {j : Nat} {o : Oper} (ho : ops[j]? = some o) (hS : S j = false) (he : ∀ e ∈ o.after, Region.binds .any e = true → S e.on = true) :
    (∀ i x, i < j → ops[i]? = some x → tmeet ops x o = true → S i = true) ∧ (∀ k y, j < k → ops[k]? = some y → tmeet ops o y = true → S k = false) := by
  refine ⟨fun i x hi hx ht => ?_, fun k y hk hy ht => ?_⟩
  · obtain ⟨b, hb, _, h3⟩ := orderly_spec hord ho
    rcases h3 i x hi hx with h | h
    · exact (beforeL_closed hcl hb).2 o ho he i h
    · rw [ht] at h; cases h
  · obtain ⟨b, hb, _, h3⟩ := orderly_spec hord hy
    rcases h3 j o hk ho with h | h
    · cases hk2 : S k with
      | false => rfl
      | true =>
        have := (beforeL_closed hcl hb).1 hk2 j h
        rw [hS] at this; cases this
    · rw [ht] at h; cases h
omit hcf in
theorem agreeT (hcl : Closed ops S) {j : Nat} {o : Oper} (hj : j < m) (ho : ops[j]? = some o) (hS : S j = false) (he : ∀ e ∈ o.after, Region.binds .any e = true → S e.on = true) {t : Tmp} (hr : maskOf o (some t) = true ∨ gdst ops o = some t ∨ o.dst = some t) :
    lastv (sgT X rec N ops c) (WrT ops) S m t = sgT X rec N ops c j t ∧ ∀ k, j < k → k < m → WrT ops k t = true → S k = false := by
  obtain ⟨a1, a2⟩ := ready_meet hord hcl ho hS he
  have hlo : ∀ i, i < j → WrT ops i t = true → S i = true := by
    intro i hi hw
    unfold WrT at hw
    rw [decide_eq_true_eq] at hw
    unfold dstAt at hw
    cases hx : ops[i]? with
    | none => rw [hx] at hw; cases hw
    | some x =>
      rw [hx] at hw
      refine a1 i x hi hx ?_
      unfold tmeet
      rcases hr with hr | hr | hr
      · simp [hw, hr]
      · simp [hw, hr, eqD_refl]
      · simp [hw, hr, eqD_refl]
  have hhi : ∀ k, j < k → k < m → WrT ops k t = true → S k = false := by
    intro k hk hkm hw
    unfold WrT at hw
    rw [decide_eq_true_eq] at hw
    unfold dstAt at hw
    cases hy : ops[k]? with
    | none => rw [hy] at hw; cases hw
    | some y =>
      rw [hy] at hw
      refine a2 k y hk hy ?_
      unfold tmeet
      rcases hr with hr | hr | hr
      · simp [hw, hr]
      · simp [hw, hr, eqD_refl]
      · simp [hw, hr, eqD_refl]
  exact ⟨lastv_agree (fun i hi t => sgT_frame hg i hi t) hj hS hlo hhi, hhi⟩
theorem agreeH (hcl : Closed ops S) {j : Nat} {o : Oper} (hj : j < m) (ho : ops[j]? = some o) (hS : S j = false) (he : ∀ e ∈ o.after, Region.binds .any e = true → S e.on = true) {h : Nat} (hr : (rm X rec N ops c j).testBit h = true ∨ (wm X rec N ops c j).testBit h = true) :
    lastv (sgH X rec N ops c) (WrH X rec N ops c) S m h = sgH X rec N ops c j h ∧ ∀ k, j < k → k < m → WrH X rec N ops c k h = true → S k = false := by
  have hlo : ∀ i, i < j → WrH X rec N ops c i h = true → S i = true := by
    intro i hi hw
    obtain ⟨b, hb, _, _⟩ := orderly_spec hord ho
    rcases hcf j hj b hb i hi with h1 | h1
    · exact (beforeL_closed hcl hb).2 o ho he i h1
    · have := (meet_bit h1 h).1 hw
      rcases hr with hr | hr
      · rw [hr] at this; cases this.1
      · rw [hr] at this; cases this.2
  have hhi : ∀ k, j < k → k < m → WrH X rec N ops c k h = true → S k = false := by
    intro k hk hkm hw
    obtain ⟨y, hy, _⟩ := one_inv (hg k hkm)
    obtain ⟨b, hb, _, _⟩ := orderly_spec hord hy
    rcases hcf k hkm b hb j hk with h1 | h1
    · cases hk2 : S k with
      | false => rfl
      | true =>
        have := (beforeL_closed hcl hb).1 hk2 j h1
        rw [hS] at this; cases this
    · have hm := meet_bit h1 h
      unfold WrH at hw
      rcases hr with hr | hr
      · rw [hm.2 hr] at hw; cases hw
      · rw [(hm.1 hr).2] at hw; cases hw
  exact ⟨lastv_agree (fun i hi t => sgH_frame hg i hi t) hj hS hlo hhi, hhi⟩
omit hcf in
/-- What an operation that is ready finds. -/
theorem ready_same (hc : c.2.rd = 0 ∧ c.2.wr = 0) (hB : (cn X rec N ops c m).2.next ≤ B) (hfree : ∀ h, c.2.next ≤ h → h < B → c.2.heap.get h = none) (hi : Inv X rec N ops c m n0 w0 φ0 B S φ tm w) {j : Nat} {o : Oper} (hj : j < m) (ho : ops[j]? = some o) (hS : S j = false) (he : ∀ e ∈ o.after, Region.binds .any e = true → S e.on = true) :
    ∃ (TT : Temps) (tr : Tr AO), (∀ t, TT.get t = lastv (sgT X rec N ops c) (WrT ops) S m t) ∧ FRel N φ TT ⟨tm, []⟩ ∧ (∀ h, tr.get h = lastv (sgH X rec N ops c) (WrH X rec N ops c) S m h) ∧ Rel n0 w0 0 φ ⟨tr, 0, 0, 0⟩ w ∧
      wantedA ops TT o = wantedA ops (cn X rec N ops c j).1 o ∧ opA X rec TT o = opA X rec (cn X rec N ops c j).1 o := by
  obtain ⟨TT, hTT, hF⟩ := hi.TS
  obtain ⟨tr, htr, hR⟩ := hi.HS
  have hT : ∀ t, (maskOf o (some t) = true ∨ gdst ops o = some t ∨ o.dst = some t) → TT.get t = (cn X rec N ops c j).1.get t := fun t ht => by
    rw [hTT]; exact (agreeT hord hg hi.closed hj ho hS he ht).1
  refine ⟨TT, tr, hTT, hF, htr, hR, yieldedA_congr fun t ht => hT t (.inr (.inl ht)), opA_congr fun x hx => ?_⟩
  cases x with
  | tmp t => exact hT t (.inl (maskOf_mem hx))
  | _ => rfl
end
end
end Go.Proofs.YtifcganfcjildaaGreatDoor.E

