/- PureRegion: a text of this claim's proof, as printed or written, without what the claim does not use. -/
import Derived.Test.YtodhmbnfliajiaaGreatDoorPureGuards
import Derived.Test.YtodhmbnfliajiaaGreatDoorQx0
namespace Go.Proofs.YtodhmbnfliajiaaGreatDoor.Q
open Go.RowKit Go.Proofs.YtodhmbnfliajiaaGreatDoorW.PrintWords
set_option linter.unusedVariables false
set_option linter.unnecessarySimpa false
def valOf (a : Act) : Option Nat → Value
  | some d => a.eval (.tmp d)
  | none => undef
section
variable {P : Program} {Q : Exit → Act → World → Prop}
structure StandsR (l : List Oper) (S : List Spec) (D : Nat → Option Nat) (Inv : World → Prop) (a0 : Act) (listed : Array Bool) (a : Act) (w : World) : Prop where
  inv : Inv w
  size : a.tmps.size = a0.tmps.size
  defers : a.defers = a0.defers
  kept : ∀ x, (∀ i, i < l.length → D i ≠ some x) → a.eval (.tmp x) = a0.eval (.tmp x)
  done : ∀ i, i < l.length → listed.getD i false = true → (specAt S i).V w (valOf a (D i))
  left : ∀ i d, i < l.length → listed.getD i false = false → D i = some d → a.eval (.tmp d) = a0.eval (.tmp d)
  closed : ∀ i o, l[i]? = some o → listed.getD i false = true → ∀ e ∈ o.after, Region.binds .any e = true → listed.getD e.on false = true
def PartR (P : Program) (l : List Oper) (S : List Spec) (D : Nat → Option Nat) (Inv : World → Prop) (R : Nat → World → World → Prop) (a0 : Act) (Q : Exit → Act → World → Prop) (i : Nat) (o : Oper) : Prop :=
  ∀ a w, Inv w → (∀ x, (∀ i, i < l.length → D i ≠ some x) → a.eval (.tmp x) = a0.eval (.tmp x)) → (∀ m, m ≠ i → reachB l i m = true → (specAt S m).V w (valOf a (D m))) → (∀ j d, j < l.length → D j = some d → reachB l j i = true → a.eval (.tmp d) = a0.eval (.tmp d)) →
    ∀ K : Act → World → Prop, (∀ v w', (specAt S i).V w' v → R i w w' → K (a.put o.dst v) w') → Oper.wp P o a w K Q
def guardPlace (l : List Oper) : Bool := l.all fun o => match o.guard with
  | none => true
  | some (j, _) => match l[j]? with
    | none => false
    | some o' => o'.dst.isSome
def PartsR (P : Program) (l : List Oper) (S : List Spec) (D : Nat → Option Nat) (Inv : World → Prop) (R : Nat → World → World → Prop) (a0 : Act) (Q : Exit → Act → World → Prop) : Nat → List Oper → Prop
  | _, [] => True
  | k, o :: r => ((specAt S k).on = true → PartR P l S D Inv R a0 Q k o) ∧ PartsR P l S D Inv R a0 Q (k + 1) r
theorem PartsR.at {l : List Oper} {S : List Spec} {D : Nat → Option Nat} {Inv : World → Prop} {R : Nat → World → World → Prop} {a0 : Act} : ∀ (r : List Oper) (k : Nat), PartsR P l S D Inv R a0 Q k r → ∀ i o, r[i]? = some o → (specAt S (k + i)).on = true → PartR P l S D Inv R a0 Q (k + i) o := by
  intro r
  induction r with
  | nil => intro k _ i o h; simp at h
  | cons x r ih =>
    intro k h i o ho
    cases i with
    | zero => simp at ho; subst ho; exact h.1
    | succ i =>
      have := ih (k + 1) h.2 i o (by simpa using ho)
      rwa [Nat.add_right_comm] at this
def oslot (ds : List (Option Nat)) (i : Nat) : Option Nat := ds.getD i none
def oslotsOk (l : List Oper) (ds : List (Option Nat)) (m : Nat) : Bool := decide (l.map (·.dst) = ds) && (decide (ds.filterMap id).Nodup && ds.all fun d => match d with | none => true | some d => decide (d < m))
theorem filterMap_inj : ∀ (ds : List (Option Nat)), (ds.filterMap id).Nodup → ∀ i j d, oslot ds i = some d → oslot ds j = some d → i = j
  | [], _, i, j, d, hi, _ => by simp [oslot] at hi
  | x :: ds, hn, i, j, d, hi, hj => by
    have hmem : ∀ i, oslot ds i = some d → d ∈ ds.filterMap id := by
      intro i h
      unfold oslot at h
      by_cases hl : i < ds.length
      · rw [List.getD_eq_getElem?_getD, List.getElem?_eq_getElem hl] at h
        exact List.mem_filterMap.2 ⟨some d, by rw [← h]; exact List.getElem_mem hl, rfl⟩
      · rw [List.getD_eq_getElem?_getD, List.getElem?_eq_none (by omega)] at h; cases h
    have hn' : (ds.filterMap id).Nodup := by
      cases x with
      | none => simpa using hn
      | some y => rw [List.filterMap_cons_some (by rfl : id (some y) = some y)] at hn; exact (List.nodup_cons.1 hn).2
    cases i with
    | zero =>
      cases j with
      | zero => rfl
      | succ j =>
        exfalso
        have hx : x = some d := hi
        subst hx
        rw [List.filterMap_cons_some (by rfl : id (some d) = some d)] at hn
        exact (List.nodup_cons.1 hn).1 (hmem j hj)
    | succ i =>
      cases j with
      | zero =>
        exfalso
        have hx : x = some d := hj
        subst hx
        rw [List.filterMap_cons_some (by rfl : id (some d) = some d)] at hn
        exact (List.nodup_cons.1 hn).1 (hmem i hi)
      | succ j => rw [filterMap_inj ds hn' i j d hi hj]
def putsO : Act → List (Option Nat) → List Spec → Act
  | a, d :: ds, s :: S => putsO (a.put d s.value) ds S
  | a, _, _ => a
theorem putsO_spec : ∀ (ds : List (Option Nat)) (S : List Spec) (a : Act), ds.length = S.length → (ds.filterMap id).Nodup → (∀ d, some d ∈ ds → d < a.tmps.size) →
    (putsO a ds S).tmps.size = a.tmps.size ∧ (putsO a ds S).defers = a.defers ∧ (∀ x, some x ∉ ds → (putsO a ds S).eval (.tmp x) = a.eval (.tmp x)) ∧ (∀ i d, oslot ds i = some d → (putsO a ds S).eval (.tmp d) = (specAt S i).value)
  | [], [], a, _, _, _ => ⟨rfl, rfl, fun _ _ => rfl, fun i d hi => by simp [oslot] at hi⟩
  | x :: ds, s :: S, a, hl, hn, hin => by
    have hn' : (ds.filterMap id).Nodup := by
      cases x with
      | none => simpa using hn
      | some y => rw [List.filterMap_cons_some (by rfl : id (some y) = some y)] at hn; exact (List.nodup_cons.1 hn).2
    have hsz : (a.put x s.value).tmps.size = a.tmps.size := by cases x <;> simp [Act.put]
    have hdf : (a.put x s.value).defers = a.defers := by cases x <;> simp [Act.put]
    obtain ⟨h1, h2, h3, h4⟩ := putsO_spec ds S (a.put x s.value) (by simpa using hl) hn' (fun d hd => by rw [hsz]; exact hin d (List.mem_cons_of_mem _ hd))
    have e0 : putsO a (x :: ds) (s :: S) = putsO (a.put x s.value) ds S := rfl
    refine ⟨by rw [e0, h1, hsz], by rw [e0, h2, hdf], fun y hy => ?_, fun i d hi => ?_⟩
    · rw [e0, h3 y (fun h => hy (List.mem_cons_of_mem _ h))]
      cases x with
      | none => rfl
      | some x => rw [Act.eval_put_ne _ _ _ _ (fun e => hy (by rw [← e]; exact List.mem_cons_self))]
    · rw [e0]
      cases i with
      | zero =>
        have hx : x = some d := hi
        subst hx
        show (putsO (a.put (some d) s.value) ds S).eval (.tmp d) = s.value
        have hnot : some d ∉ ds := by
          intro h
          rw [List.filterMap_cons_some (by rfl : id (some d) = some d)] at hn
          exact (List.nodup_cons.1 hn).1 (List.mem_filterMap.2 ⟨some d, h, rfl⟩)
        rw [h3 d hnot, Act.eval_put_same _ _ _ (hin d List.mem_cons_self)]
      | succ i => exact h4 i d hi
def conc : List Spec → (Nat → Value) → Nat → List Spec
  | [], _, _ => []
  | .by_ _ :: S, f, k => .val (f k) :: conc S f (k + 1)
  | s :: S, f, k => s :: conc S f (k + 1)
theorem conc_length : ∀ (S : List Spec) (f : Nat → Value) (k : Nat), (conc S f k).length = S.length
  | [], _, _ => rfl
  | s :: S, f, k => by cases s <;> simp [conc, conc_length S f (k + 1)]
theorem conc_at : ∀ (S : List Spec) (f : Nat → Value) (k i : Nat), i < S.length → (specAt (conc S f k) i).value = match specAt S i with | .off => undef | .val v => v | .by_ _ => f (k + i)
  | [], _, _, _, h => by simp at h
  | s :: S, f, k, 0, h => by cases s <;> rfl
  | s :: S, f, k, i + 1, h => by
    have ih := conc_at S f (k + 1) i (by simpa using h)
    have e : specAt (conc (s :: S) f k) (i + 1) = specAt (conc S f (k + 1)) i := by cases s <;> rfl
    have e2 : specAt (s :: S) (i + 1) = specAt S i := rfl
    rw [e, e2, ih, show k + 1 + i = k + (i + 1) by omega]
end
end Go.Proofs.YtodhmbnfliajiaaGreatDoor.Q
