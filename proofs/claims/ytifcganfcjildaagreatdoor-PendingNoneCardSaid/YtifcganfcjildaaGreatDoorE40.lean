/- A region of operations, whatever their order: one more operation's turn. -/
import Derived.Test.YtifcganfcjildaaGreatDoorE39
namespace Go.Proofs.YtifcganfcjildaaGreatDoor.E
open Go Go.RowKit
set_option linter.unusedVariables false
set_option linter.unusedSimpArgs false
set_option linter.unnecessarySimpa false
noncomputable section

theorem orderly_spec {ops : Array Oper} (h : orderly ops = true) {j : Nat} {o : Oper} (ho : ops[j]? = some o) :
    ∃ b, (beforeL ops)[j]? = some b ∧ (∀ e ∈ o.after, Region.binds .any e = true → e.on < j) ∧ ∀ i x, i < j → ops[i]? = some x → b.testBit i = true ∨ tmeet ops x o = false := by
  unfold orderly at h
  dsimp only at h
  rw [Bool.and_eq_true] at h
  have hj : j < ops.toList.length := by
    have := (Array.getElem?_eq_some_iff.1 ho).1
    simpa using this
  have hs := forB_spec h.2 j hj
  have ho' : ops.toList[j]? = some o := by simpa using ho
  rw [ho'] at hs
  cases hb : (beforeL ops)[j]? with
  | none => rw [hb] at hs; cases hs
  | some b =>
    rw [hb] at hs
    dsimp only at hs
    rw [Bool.and_eq_true] at hs
    refine ⟨b, rfl, fun e he hbd => ?_, fun i x hi hx => ?_⟩
    · have := hs.1
      rw [Array.all_eq_true_iff_forall_mem] at this
      have := this e he
      rw [hbd] at this
      simp only [Bool.not_true, Bool.false_or, Nat.blt_eq] at this
      exact this
    · have := forB_spec hs.2 i hi
      have hx' : ops.toList[i]? = some x := by simpa using hx
      rw [hx'] at this
      simpa using this
theorem yieldedA_congr {ops : Array Oper} {T T' : Temps} {o : Oper} (h : ∀ t, gdst ops o = some t → T.get t = T'.get t) : wantedA ops T o = wantedA ops T' o := by
  unfold wantedA
  cases hg : o.guard with
  | none => rfl
  | some p =>
    obtain ⟨j, want⟩ := p
    have : yieldedA ops T j = yieldedA ops T' j := by
      unfold yieldedA
      cases ho : ops[j]? with
      | none => rfl
      | some x =>
        cases hd : x.dst with
        | none => simp only [hd]
        | some d =>
          have := h d (by simp only [gdst, hg, ho, hd])
          simp only [hd, this]
    simp only [this]
theorem maskOf_mem {o : Oper} {t : Tmp} (h : Operand.tmp t ∈ o.op.operands) : maskOf o (some t) = true := by
  unfold maskOf
  dsimp only
  rw [List.any_eq_true]
  exact ⟨.tmp t, by simpa using h, Nat.beq_refl t⟩
theorem eqD_refl (t : Tmp) : eqD (some t) (some t) = true := Nat.beq_refl t
section
variable (X : Ctx) (rec : AF → Fr Fin) (N : Nat) (ops : Array Oper) (c : Temps × HS) (m n0 : Nat) (w0 : World) (φ0 : Map) (B : Nat)
/-- What stands while a region runs: some of the operations had their turn. -/
structure Inv (S : Nat → Bool) (φ : Map) (tm : Array Value) (w : World) : Prop where
  closed : Closed ops S
  lt : ∀ i, S i = true → i < m
  TS : ∃ TT : Temps, (∀ t, TT.get t = lastv (sgT X rec N ops c) (WrT ops) S m t) ∧ FRel N φ TT ⟨tm, []⟩
  HS : ∃ tr : Tr AO, (∀ h, tr.get h = lastv (sgH X rec N ops c) (WrH X rec N ops c) S m h) ∧ Rel n0 w0 0 φ ⟨tr, 0, 0, 0⟩ w
  le : φ0.le φ
  out : ∀ h, (h < c.2.next ∨ B ≤ h) → φ h = φ0 h
end
theorem Rel.re {n0 : Nat} {w0 : World} {lm lm' : Nat} {φ : Map} {s s' : HS} {w : World} (h : Rel n0 w0 lm φ s w) (e : ∀ j, s'.heap.get j = s.heap.get j) (hw : ∀ j, s'.next ≤ j → j < lm' → s.heap.get j = none) : Rel n0 w0 lm' φ s' w :=
  ⟨h.below, fun j a b => by rw [e]; exact hw j a b, fun j o ho hl => h.objs j o (by rw [← e]; exact ho) hl, fun j k o o' p p' a b => h.inj j k o o' p p' (by rw [← e]; exact a) (by rw [← e]; exact b), fun j p a => by rw [e]; exact h.dom j p a, h.base⟩
section
variable {X : Ctx} {rec : AF → Fr Fin} {N : Nat} {ops : Array Oper} {c : Temps × HS} {m n0 : Nat} {w0 : World} {φ0 : Map} {B : Nat} {S : Nat → Bool} {φ : Map} {tm : Array Value} {w : World}
variable (hord : orderly ops = true) (hg : ∀ i, i < m → (oneC X rec N ops i (cn X rec N ops c i)).isSome = true) (hcf : ∀ i, i < m → ∀ b, (beforeL ops)[i]? = some b → ∀ i', i' < i → b.testBit i' = true ∨ meetz X rec N ops c i' i)
include hord hg hcf
omit hg hcf in
/-- Whoever meets an operation that is ready had their turn if ahead, and none if behind. -/
theorem ready_meet (hcl : Closed ops S) {j : Nat} {o : Oper} (ho : ops[j]? = some o) (hS : S j = false) (he : ∀ e ∈ o.after, Region.binds .any e = true → S e.on = true) :
    (∀ i x, i < j → ops[i]? = some x → tmeet ops x o = true → S i = true) ∧ (∀ k y, j < k → ops[k]? = some y → tmeet ops o y = true → S k = false) := by
  refine ⟨fun i x hi hx ht => ?_, fun k y hk hy ht => ?_⟩
  · obtain ⟨b, hb, _, h3⟩ := orderly_spec hord ho
    rcases h3 i x hi hx with h | h
    · exact (beforeL_closed hcl hb).2 o ho he i h
    · rw [ht] at h; cases h
  · obtain ⟨b, hb, _, h3⟩ := orderly_spec hord hy
    rcases h3 j o hk ho with h | h
    · cases hk2 : S k with
      | false => rfl
      | true =>
        have := (beforeL_closed hcl hb).1 hk2 j h
        rw [hS] at this; cases this
    · rw [ht] at h; cases h
omit hcf in
theorem agreeT (hcl : Closed ops S) {j : Nat} {o : Oper} (hj : j < m) (ho : ops[j]? = some o) (hS : S j = false) (he : ∀ e ∈ o.after, Region.binds .any e = true → S e.on = true) {t : Tmp} (hr : maskOf o (some t) = true ∨ gdst ops o = some t ∨ o.dst = some t) :
    lastv (sgT X rec N ops c) (WrT ops) S m t = sgT X rec N ops c j t ∧ ∀ k, j < k → k < m → WrT ops k t = true → S k = false := by
  obtain ⟨a1, a2⟩ := ready_meet hord hcl ho hS he
  have hlo : ∀ i, i < j → WrT ops i t = true → S i = true := by
    intro i hi hw
    unfold WrT at hw
    rw [decide_eq_true_eq] at hw
    unfold dstAt at hw
    cases hx : ops[i]? with
    | none => rw [hx] at hw; cases hw
    | some x =>
      rw [hx] at hw
      refine a1 i x hi hx ?_
      unfold tmeet
      rcases hr with hr | hr | hr
      · simp [hw, hr]
      · simp [hw, hr, eqD_refl]
      · simp [hw, hr, eqD_refl]
  have hhi : ∀ k, j < k → k < m → WrT ops k t = true → S k = false := by
    intro k hk hkm hw
    unfold WrT at hw
    rw [decide_eq_true_eq] at hw
    unfold dstAt at hw
    cases hy : ops[k]? with
    | none => rw [hy] at hw; cases hw
    | some y =>
      rw [hy] at hw
      refine a2 k y hk hy ?_
      unfold tmeet
      rcases hr with hr | hr | hr
      · simp [hw, hr]
      · simp [hw, hr, eqD_refl]
      · simp [hw, hr, eqD_refl]
  exact ⟨lastv_agree (fun i hi t => sgT_frame hg i hi t) hj hS hlo hhi, hhi⟩
theorem agreeH (hcl : Closed ops S) {j : Nat} {o : Oper} (hj : j < m) (ho : ops[j]? = some o) (hS : S j = false) (he : ∀ e ∈ o.after, Region.binds .any e = true → S e.on = true) {h : Nat} (hr : (rm X rec N ops c j).testBit h = true ∨ (wm X rec N ops c j).testBit h = true) :
    lastv (sgH X rec N ops c) (WrH X rec N ops c) S m h = sgH X rec N ops c j h ∧ ∀ k, j < k → k < m → WrH X rec N ops c k h = true → S k = false := by
  have hlo : ∀ i, i < j → WrH X rec N ops c i h = true → S i = true := by
    intro i hi hw
    obtain ⟨b, hb, _, _⟩ := orderly_spec hord ho
    rcases hcf j hj b hb i hi with h1 | h1
    · exact (beforeL_closed hcl hb).2 o ho he i h1
    · have := (meet_bit h1 h).1 hw
      rcases hr with hr | hr
      · rw [hr] at this; cases this.1
      · rw [hr] at this; cases this.2
  have hhi : ∀ k, j < k → k < m → WrH X rec N ops c k h = true → S k = false := by
    intro k hk hkm hw
    obtain ⟨y, hy, _⟩ := one_inv (hg k hkm)
    obtain ⟨b, hb, _, _⟩ := orderly_spec hord hy
    rcases hcf k hkm b hb j hk with h1 | h1
    · cases hk2 : S k with
      | false => rfl
      | true =>
        have := (beforeL_closed hcl hb).1 hk2 j h1
        rw [hS] at this; cases this
    · have hm := meet_bit h1 h
      unfold WrH at hw
      rcases hr with hr | hr
      · rw [hm.2 hr] at hw; cases hw
      · rw [(hm.1 hr).2] at hw; cases hw
  exact ⟨lastv_agree (fun i hi t => sgH_frame hg i hi t) hj hS hlo hhi, hhi⟩
omit hcf in
/-- What an operation that is ready finds. -/
theorem ready_same (hc : c.2.rd = 0 ∧ c.2.wr = 0) (hB : (cn X rec N ops c m).2.next ≤ B) (hfree : ∀ h, c.2.next ≤ h → h < B → c.2.heap.get h = none) (hi : Inv X rec N ops c m n0 w0 φ0 B S φ tm w) {j : Nat} {o : Oper} (hj : j < m) (ho : ops[j]? = some o) (hS : S j = false) (he : ∀ e ∈ o.after, Region.binds .any e = true → S e.on = true) :
    ∃ (TT : Temps) (tr : Tr AO), (∀ t, TT.get t = lastv (sgT X rec N ops c) (WrT ops) S m t) ∧ FRel N φ TT ⟨tm, []⟩ ∧ (∀ h, tr.get h = lastv (sgH X rec N ops c) (WrH X rec N ops c) S m h) ∧ Rel n0 w0 0 φ ⟨tr, 0, 0, 0⟩ w ∧
      wantedA ops TT o = wantedA ops (cn X rec N ops c j).1 o ∧ opA X rec TT o = opA X rec (cn X rec N ops c j).1 o := by
  obtain ⟨TT, hTT, hF⟩ := hi.TS
  obtain ⟨tr, htr, hR⟩ := hi.HS
  have hT : ∀ t, (maskOf o (some t) = true ∨ gdst ops o = some t ∨ o.dst = some t) → TT.get t = (cn X rec N ops c j).1.get t := fun t ht => by
    rw [hTT]; exact (agreeT hord hg hi.closed hj ho hS he ht).1
  refine ⟨TT, tr, hTT, hF, htr, hR, yieldedA_congr fun t ht => hT t (.inr (.inl ht)), opA_congr fun x hx => ?_⟩
  cases x with
  | tmp t => exact hT t (.inl (maskOf_mem hx))
  | _ => rfl
end
end
end Go.Proofs.YtifcganfcjildaaGreatDoor.E
