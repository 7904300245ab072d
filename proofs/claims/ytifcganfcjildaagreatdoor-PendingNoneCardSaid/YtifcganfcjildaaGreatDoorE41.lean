/- A region of operations, whatever their order: the whole. -/
import Derived.Test.YtifcganfcjildaaGreatDoorE40
namespace Go.Proofs.YtifcganfcjildaaGreatDoor.E
open Go Go.RowKit
set_option linter.unusedVariables false
set_option linter.unusedSimpArgs false
set_option linter.unnecessarySimpa false
noncomputable section

theorem wantedA_sound {ops : Array Oper} {T : Temps} {N : Nat} {φ : Map} {tm : Array Value} (hf : FRel N φ T ⟨tm, []⟩) {o : Oper} {b : Bool} (h : wantedA ops T o = some b) : Region.wanted o (yielded ops tm) = b := by
  unfold wantedA at h
  unfold Region.wanted
  cases hg : o.guard with
  | none => rw [hg] at h; obtain rfl := Option.some.inj h; rfl
  | some p =>
    obtain ⟨j, want⟩ := p
    rw [hg] at h
    dsimp only at h ⊢
    unfold yieldedA at h
    unfold yielded
    cases ho : ops[j]? with
    | none => rw [ho] at h; cases h
    | some x =>
      rw [ho] at h
      dsimp only at h
      cases hd : x.dst with
      | none => rw [hd] at h; cases h
      | some d =>
        rw [hd] at h
        dsimp only at h
        simp only [Option.bind_some, hd]
        split at h
        · cases h
        · next e =>
          obtain rfl := Option.some.inj h
          split at e
          · next b hb => cases e
          · next hb =>
            obtain ⟨q1, q2⟩ := hf.at_ d _ hb
            have hs : tm.size = N := hf.size
            simp only [Array.getD_eq_getD_getElem?] at q2
            have hlt : d < tm.size := by rw [hs]; exact q1
            rw [Array.getElem?_eq_getElem hlt] at q2 ⊢
            simp only [Option.getD_some] at q2
            generalize tm[d] = y at *
            cases q2 with
            | tup _ => rfl
          · cases e
        · next b' e =>
          obtain rfl := Option.some.inj h
          split at e
          · next b2 hb =>
            obtain rfl := Option.some.inj (Option.some.inj e)
            obtain ⟨q1, q2⟩ := hf.at_ d _ hb
            have hs : tm.size = N := hf.size
            simp only [Array.getD_eq_getD_getElem?] at q2
            have hlt : d < tm.size := by rw [hs]; exact q1
            rw [Array.getElem?_eq_getElem hlt] at q2 ⊢
            simp only [Option.getD_some] at q2
            generalize tm[d] = y at *
            cases q2
            cases b2 <;> cases want <;> rfl
          · cases e
          · cases e
theorem finish_reg {fr : Frame} {ops : Array Oper} {i : Nat} {rest : List Nat} {k : List Item} {o : Oper} (ht : fr.todo = .inRegion ops (i :: rest) :: k) (ho : ops[i]? = some o) (V : Value) :
    fr.finish V = { fr with tmps := putV fr.tmps o.dst V, todo := .inRegion ops rest :: k } := by
  simp only [Frame.finish, ht, ho, Option.bind_some, putV]
  cases o.dst <;> rfl
def addS (S : Nat → Bool) (j : Nat) : Nat → Bool := fun i => S i || decide (i = j)
section
variable {X : Ctx} {rec : AF → Fr Fin} {N : Nat} {ops : Array Oper} {c : Temps × HS} {m n0 : Nat} {w0 : World} {φ0 : Map} {B : Nat} {S : Nat → Bool} {φ : Map} {tm : Array Value} {w : World}
theorem addS_closed (hcl : Closed ops S) {j : Nat} {o : Oper} (ho : ops[j]? = some o) (he : ∀ e ∈ o.after, Region.binds .any e = true → S e.on = true) : Closed ops (addS S j) := by
  intro i x hx hi e hm hb
  unfold addS at hi ⊢
  rw [Bool.or_eq_true] at hi ⊢
  rcases hi with hi | hi
  · exact .inl (hcl i x hx hi e hm hb)
  · rw [decide_eq_true_eq] at hi
    subst hi
    rw [ho] at hx
    obtain rfl := Option.some.inj hx
    exact .inl (he e hm hb)
variable (hX : XOk X n0 w0) (hu : UnitOk X n0 w0 rec) (hord : orderly ops = true) (hg : ∀ i, i < m → (oneC X rec N ops i (cn X rec N ops c i)).isSome = true) (hcf : ∀ i, i < m → ∀ b, (beforeL ops)[i]? = some b → ∀ i', i' < i → b.testBit i' = true ∨ meetz X rec N ops c i' i)
  (hc : c.2.rd = 0 ∧ c.2.wr = 0) (hB : (cn X rec N ops c m).2.next ≤ B) (hfree : ∀ h, c.2.next ≤ h → h < B → c.2.heap.get h = none)
include hX hu hord hg hcf hc hB hfree
/-- One more operation. -/
theorem inv_step (hi : Inv X rec N ops c m n0 w0 φ0 B S φ tm w) {j : Nat} {o : Oper} (hj : j < m) (ho : ops[j]? = some o) (hS : S j = false) (he : ∀ e ∈ o.after, Region.binds .any e = true → S e.on = true) {fr0 : Frame} (hmd : fr0.mode = .run) {rest : List Nat} {k : List Item} (cs : List Frame) :
    ∃ ψ tm' w', Steps X.P (lone { fr0 with tmps := tm, todo := .inRegion ops (j :: rest) :: k } cs w) (lone { fr0 with tmps := tm', todo := .inRegion ops rest :: k } cs w') ∧ Inv X rec N ops c m n0 w0 φ0 B (addS S j) ψ tm' w' := by
  obtain ⟨TT, tr, hTT, hF, htr, hR, hwant, hop⟩ := ready_same hord hg hc hB hfree hi hj ho hS he
  obtain ⟨o', ho', hone⟩ := one_inv (hg j hj)
  rw [ho] at ho'
  obtain rfl := Option.some.inj ho'
  have hfr : ({ fr0 with tmps := tm, todo := .inRegion ops (j :: rest) :: k } : Frame).todo = .inRegion ops (j :: rest) :: k := rfl
  have hmd' : ({ fr0 with tmps := tm, todo := .inRegion ops (j :: rest) :: k } : Frame).mode = .run := hmd
  have hlt : ∀ i, addS S j i = true → i < m := by
    intro i h
    unfold addS at h
    rw [Bool.or_eq_true, decide_eq_true_eq] at h
    rcases h with h | rfl
    · exact hi.lt i h
    · exact hj
  have hcl := addS_closed hi.closed ho he
  have hadd : ∀ i, addS S j i = (S i || decide (i = j)) := fun i => rfl
  have hWT : ∀ t, WrT ops j t = true → ∀ k, j < k → k < m → WrT ops k t = true → S k = false := fun t ht => by
    unfold WrT at ht
    rw [decide_eq_true_eq] at ht
    simp only [dstAt, ho] at ht
    exact (agreeT hord hg hi.closed hj ho hS he (.inr (.inr ht))).2
  have hTd : ∀ t, (WrT ops j t = true ↔ o.dst = some t) := fun t => by
    unfold WrT
    rw [decide_eq_true_eq]
    simp only [dstAt, ho]
  have hnm := nx_mono hg
  rcases hone with ⟨h1, h2, h3, h4, h5⟩ | ⟨v, s1, h1, h2, h3, h4, h5, h6⟩
  · -- it is passed over
    rw [← hwant] at h1
    have hw := wantedA_sound hF h1
    obtain ⟨TT', hTT'⟩ := putT_some (U := TT) h2
    have hst := st_skip (P := X.P) (cs := cs) (w := w) hmd' hfr ho hw
    rw [finish_reg hfr ho] at hst
    refine ⟨φ, putV tm o.dst undef, w, .one hst, hcl, hlt, ⟨TT', fun t => ?_, hF.put (.tup .nil) hTT'⟩, ⟨tr, fun h => ?_, hR⟩, hi.le, hi.out⟩
    · rw [lastv_add hj hadd hS (hWT t), putT_get hTT', hTT t]
      by_cases e : o.dst = some t
      · rw [if_pos e, if_pos ((hTd t).2 e)]
        unfold sgT
        rw [putT_get h2, if_pos e]
      · rw [if_neg e, if_neg (fun h => e ((hTd t).1 h))]
    · have hwf : WrH X rec N ops c j h = false := by unfold WrH; rw [h5]; simp
      rw [lastv_add hj hadd hS (fun h => by rw [hwf] at h; cases h), if_neg (by rw [hwf]; simp)]
      exact htr h
  · -- it is done
    rw [← hwant] at h1
    have hw := wantedA_sound hF h1
    obtain ⟨l1, r, wr, p1, q1, f1, n1, d1⟩ := (opA X rec (cn X rec N ops c j).1 o).ok _ _ _ h2
    have hrw := cn_nrm (X := X) (rec := rec) (N := N) (ops := ops) hc j
    rw [hrw.1, Nat.zero_or] at p1
    rw [hrw.2, Nat.zero_or] at q1
    have hnx : (cn X rec N ops c (j + 1)).2.next = s1.next := by rw [h4]; rfl
    have hnB : s1.next ≤ B := by rw [← hnx]; exact Nat.le_trans (hnm m (Nat.le_refl _) (j + 1) (by omega)) hB
    have hfr_at := free_at hg hc hB hfree j (by omega)
    have hag : ∀ h, ((rm X rec N ops c j).testBit h = true ∨ (wm X rec N ops c j).testBit h = true) → tr.get h = (cn X rec N ops c j).2.heap.get h := fun h hh => by
      rw [htr h]; exact (agreeH hord hg hcf hi.closed hj ho hS he hh).1
    obtain ⟨t', k1, k2, k3, k4, k5⟩ := d1 (fun h a b => hfr_at h a (by omega)) ⟨tr, (cn X rec N ops c j).2.next, 0, 0⟩ rfl (fun h a b => by
      refine hag h ?_
      rw [Nat.testBit_or, Bool.or_eq_true] at b
      rcases b with b | b
      · exact .inl (by rw [h5, p1]; exact b)
      · exact .inr (by rw [h6, Nat.testBit_or, q1, b, Bool.true_or])) (fun h a b => by
      show tr.get h = none
      rw [hag h (.inr (by rw [h6, Nat.testBit_or, blockMask_bit]; simp; omega))]
      exact hfr_at h a (by omega))
    have hRt : Rel n0 w0 s1.next φ ⟨tr, (cn X rec N ops c j).2.next, 0, 0⟩ w := hR.re (fun _ => rfl) (fun h a b => by
      show tr.get h = none
      rw [hag h (.inr (by rw [h6, Nat.testBit_or, blockMask_bit]; simp; exact .inr ⟨a, b⟩))]
      exact hfr_at h a (by omega))
    have k1' : (opA X rec TT o).run ⟨tr, (cn X rec N ops c j).2.next, 0, 0⟩ = some (.val v, t') := by rw [hop]; exact k1
    obtain ⟨ψ, w', e1, e2, V, e3, e4⟩ := opA_sound (fr := { fr0 with tmps := tm, todo := .inRegion ops (j :: rest) :: k }) hX hu hRt hF hmd' hfr ho hw k1' (by rw [k2]; exact Nat.le_refl _) cs
    rw [finish_reg hfr ho] at e4
    obtain ⟨TT', hTT'⟩ := putT_some (U := TT) h3
    rw [k2] at e1
    refine ⟨ψ, putV tm o.dst V, w', e4, hcl, hlt, ⟨TT', fun t => ?_, (hF.mono e1.le).put e3 hTT'⟩, ⟨t'.heap, fun h => ?_, e2.re (fun _ => rfl) (fun _ _ h => by omega)⟩, Map.le_trans hi.le e1.le, fun h hh => ?_⟩
    · rw [lastv_add hj hadd hS (hWT t), putT_get hTT', hTT t]
      by_cases e : o.dst = some t
      · rw [if_pos e, if_pos ((hTd t).2 e)]
        unfold sgT
        rw [putT_get h3, if_pos e]
      · rw [if_neg e, if_neg (fun h => e ((hTd t).1 h))]
    · rw [lastv_add hj hadd hS (fun hh => (agreeH hord hg hcf hi.closed hj ho hS he (.inr hh)).2), k5 h]
      show (if _ then _ else tr.get h) = _
      rw [htr h]
      have hbit : WrH X rec N ops c j h = true ↔ (((h < (cn X rec N ops c j).2.next ∨ s1.next ≤ h) ∧ wr.testBit h = true) ∨ ((cn X rec N ops c j).2.next ≤ h ∧ h < s1.next)) := by
        unfold WrH
        rw [h6, Nat.testBit_or, Bool.or_eq_true, q1, blockMask_bit, Bool.and_eq_true, decide_eq_true_eq, decide_eq_true_eq]
        constructor
        · rintro (hh | hh)
          · by_cases cc : (cn X rec N ops c j).2.next ≤ h ∧ h < s1.next
            · exact .inr cc
            · exact .inl ⟨by omega, hh⟩
          · exact .inr hh
        · rintro (⟨_, hh⟩ | hh)
          · exact .inl hh
          · exact .inr hh
      by_cases cc : WrH X rec N ops c j h = true
      · rw [if_pos cc, if_pos (hbit.1 cc)]
        unfold sgH
        rw [h4]; rfl
      · rw [if_neg cc, if_neg (fun hh => cc (hbit.2 hh))]
    · have ha : c.2.next ≤ (cn X rec N ops c j).2.next := hnm j (by omega) 0 (by omega)
      rw [← hi.out h hh]
      refine e1.out h ?_
      show h < (cn X rec N ops c j).2.next ∨ s1.next ≤ h
      omega
end
end
end Go.Proofs.YtifcganfcjildaaGreatDoor.E
