/- PureGuards: a text of this claim's proof, as printed or written, without what the claim does not use. -/
import Derived.WalkKit
import Derived.Orders
import Derived.RegionTactic
import Derived.StillTail
import Derived.Great.Frames
import Derived.Test.YtodhmbnfliajiaaGreatDoorQx0
namespace Go.Proofs.YtodhmbnfliajiaaGreatDoor.Q
open Go.RowKit Go.Proofs.YtodhmbnfliajiaaGreatDoorW.PrintWords
set_option linter.unusedVariables false
set_option linter.unnecessarySimpa false
inductive Spec where
  | off
  | val (v : Value)
  | by_ (s : World → Value → Prop)
def Spec.V : Spec → World → Value → Prop
  | .off => fun _ v => v = undef
  | .val u => fun _ v => v = u
  | .by_ s => s
def Spec.on : Spec → Bool
  | .off => false
  | _ => true
def Spec.lasts : Spec → Prop
  | .by_ s => ∀ w w' v, Below w.heap.size w w' → s w v → s w' v
  | _ => True
def specAt (S : List Spec) (i : Nat) : Spec := S.getD i .off
def maskOf (acc : List Nat) (o : Oper) : Nat := o.after.toList.foldl (fun m e => if Region.binds .any e then m ||| acc.getD e.on 0 else m) (1 <<< acc.length)
def masks (l : List Oper) : List Nat := l.foldl (fun acc o => acc ++ [maskOf acc o]) []
def reachB (l : List Oper) (j i : Nat) : Bool := ((masks l).getD j 0).testBit i
theorem masks_snoc (l : List Oper) (o : Oper) : masks (l ++ [o]) = masks l ++ [maskOf (masks l) o] := by
  unfold masks; rw [List.foldl_append]; rfl
theorem masks_append (l r : List Oper) : ∃ s, masks (l ++ r) = masks l ++ s := by
  induction r generalizing l with
  | nil => exact ⟨[], by simp⟩
  | cons o r ih =>
    obtain ⟨s, hs⟩ := ih (l ++ [o])
    refine ⟨maskOf (masks l) o :: s, ?_⟩
    rw [show l ++ o :: r = (l ++ [o]) ++ r by simp, hs, masks_snoc]; simp
theorem masks_length (l : List Oper) : (masks l).length = l.length := by
  have h : ∀ (l : List Oper) (acc : List Nat), (l.foldl (fun acc o => acc ++ [maskOf acc o]) acc).length = acc.length + l.length := by
    intro l
    induction l with
    | nil => intro acc; rfl
    | cons o l ih => intro acc; rw [List.foldl_cons, ih]; simp; omega
  unfold masks; rw [h]; simp
theorem mask_bit (acc : List Nat) (i : Nat) : ∀ (es : List Edge) (m0 : Nat), (es.foldl (fun m e => if Region.binds .any e then m ||| acc.getD e.on 0 else m) m0).testBit i = true → m0.testBit i = true ∨ ∃ e ∈ es, Region.binds .any e = true ∧ (acc.getD e.on 0).testBit i = true
  | [], m0, h => .inl h
  | e :: es, m0, h => by
    rw [List.foldl_cons] at h
    rcases mask_bit acc i es _ h with h1 | ⟨e', he', h2⟩
    · cases hb : Region.binds .any e with
      | false => rw [hb, if_neg (by decide)] at h1; exact .inl h1
      | true =>
        rw [hb, if_pos rfl, Nat.testBit_or, Bool.or_eq_true] at h1
        rcases h1 with h1 | h1
        · exact .inl h1
        · exact .inr ⟨e, List.mem_cons_self, hb, h1⟩
    · exact .inr ⟨e', List.mem_cons_of_mem _ he', h2⟩
theorem reach_lt {l : List Oper} {j i : Nat} (h : reachB l j i = true) : j < l.length := by
  unfold reachB at h
  by_cases hj : j < (masks l).length
  · rwa [masks_length] at hj
  · rw [List.getD_eq_getElem?_getD, List.getElem?_eq_none (by omega)] at h
    simp at h
theorem reach_step {l : List Oper} {j i : Nat} {o : Oper} (ho : l[j]? = some o) (hb : ∀ e ∈ o.after, Region.binds .any e = true → e.on < j) (h : reachB l j i = true) : i = j ∨ ∃ e ∈ o.after, Region.binds .any e = true ∧ reachB l e.on i = true := by
  have hj := (List.getElem?_eq_some_iff.1 ho).1
  have hsp : l = l.take j ++ (o :: l.drop (j + 1)) := by
    have := (List.getElem?_eq_some_iff.1 ho).2
    rw [← this, ← List.drop_eq_getElem_cons hj, List.take_append_drop]
  have hlen : (masks (l.take j)).length = j := by rw [masks_length, List.length_take]; omega
  obtain ⟨s, hs⟩ := masks_append (l.take j ++ [o]) (l.drop (j + 1))
  rw [show (l.take j ++ [o]) ++ l.drop (j + 1) = l by rw [List.append_assoc]; exact hsp.symm, masks_snoc] at hs
  have hpre : ∀ q, q < j → (masks l).getD q 0 = (masks (l.take j)).getD q 0 := by
    intro q hq
    rw [hs, List.getD_eq_getElem?_getD, List.getD_eq_getElem?_getD, List.append_assoc, List.getElem?_append_left (by omega)]
  have hat : (masks l).getD j 0 = maskOf (masks (l.take j)) o := by
    rw [hs, List.getD_eq_getElem?_getD, List.append_assoc, List.getElem?_append_right (by omega), hlen, Nat.sub_self]; rfl
  unfold reachB at h
  rw [hat] at h
  unfold maskOf at h
  rcases mask_bit _ i _ _ h with h1 | ⟨e, he, hbe, h2⟩
  · left
    rw [hlen, Nat.one_shiftLeft, Nat.testBit_two_pow] at h1
    exact (of_decide_eq_true h1).symm
  · right
    have he' : e ∈ o.after := by simpa using he
    refine ⟨e, he', hbe, ?_⟩
    unfold reachB
    rw [hpre e.on (hb e he' hbe)]; exact h2
def guardOk (l : List Oper) (S : List Spec) (i : Nat) (o : Oper) : Bool := match o.guard with
  | none => (specAt S i).on
  | some (j, pol) => decide (j ≠ i) && reachB l i j && decide (j < l.length) && (match specAt S j with
    | .val (.bool b) => (b == pol) == (specAt S i).on
    | .off => !(specAt S i).on
    | _ => false)
def looksG (l : List Oper) (S : List Spec) : Bool := (List.range l.length).all fun i => match l[i]? with
  | none => true
  | some o => guardOk l S i o && o.after.all fun e => !Region.binds .any e || decide (e.on < i)
theorem looksG_spec {l : List Oper} {S : List Spec} (h : looksG l S = true) {i : Nat} {o : Oper} (ho : l[i]? = some o) : guardOk l S i o = true ∧ ∀ e ∈ o.after, Region.binds .any e = true → e.on < i := by
  unfold looksG at h
  rw [List.all_eq_true] at h
  have hi := (List.getElem?_eq_some_iff.1 ho).1
  have := h i (List.mem_range.2 hi)
  rw [ho] at this
  simp only [Bool.and_eq_true, Array.all_eq_true_iff_forall_mem, Bool.or_eq_true, Bool.not_eq_true', decide_eq_true_eq] at this
  exact ⟨this.1, fun e he hb => (this.2 e he).resolve_left (by rw [hb]; decide)⟩
section
variable {P : Program} {Q : Exit → Act → World → Prop}
structure StandsG (l : List Oper) (S : List Spec) (D : Nat → Nat) (a0 : Act) (w0 : World) (listed : Array Bool) (a : Act) (w : World) : Prop where
  below : Below w0.heap.size w0 w
  size : a.tmps.size = a0.tmps.size
  defers : a.defers = a0.defers
  kept : ∀ x, (∀ i, i < l.length → D i ≠ x) → a.eval (.tmp x) = a0.eval (.tmp x)
  done : ∀ i, i < l.length → listed.getD i false = true → (specAt S i).V w (a.eval (.tmp (D i)))
  left : ∀ i, i < l.length → listed.getD i false = false → a.eval (.tmp (D i)) = a0.eval (.tmp (D i))
  closed : ∀ i o, l[i]? = some o → listed.getD i false = true → ∀ e ∈ o.after, Region.binds .any e = true → listed.getD e.on false = true
theorem closed_reach {l : List Oper} {listed : Array Bool} (hb : ∀ j o, l[j]? = some o → ∀ e ∈ o.after, Region.binds .any e = true → e.on < j) (hc : ∀ i o, l[i]? = some o → listed.getD i false = true → ∀ e ∈ o.after, Region.binds .any e = true → listed.getD e.on false = true) :
    ∀ (j i : Nat), reachB l j i = true → listed.getD j false = true → listed.getD i false = true := by
  intro j
  induction j using Nat.strongRecOn with
  | _ j ih =>
    intro i h hj
    have hjl := reach_lt h
    have ho : l[j]? = some l[j] := List.getElem?_eq_getElem hjl
    rcases reach_step ho (hb j _ ho) h with rfl | ⟨e, he, hbe, hr⟩
    · exact hj
    · exact ih e.on (hb j _ ho e he hbe) i hr (hc j _ ho hj e he hbe)
def PartG (P : Program) (l : List Oper) (S : List Spec) (D : Nat → Nat) (a0 : Act) (w0 : World) (Q : Exit → Act → World → Prop) (i : Nat) (o : Oper) : Prop :=
  ∀ a w, Below w0.heap.size w0 w → (∀ x, (∀ i, i < l.length → D i ≠ x) → a.eval (.tmp x) = a0.eval (.tmp x)) → (∀ m, m ≠ i → reachB l i m = true → (specAt S m).V w (a.eval (.tmp (D m)))) → (∀ j, j < l.length → reachB l j i = true → a.eval (.tmp (D j)) = a0.eval (.tmp (D j))) →
    ∀ K : Act → World → Prop, (∀ v w', (specAt S i).V w' v → Below w.heap.size w w' → K (a.put o.dst v) w') → Oper.wp P o a w K Q
def PartsG (P : Program) (l : List Oper) (S : List Spec) (D : Nat → Nat) (a0 : Act) (w0 : World) (Q : Exit → Act → World → Prop) : Nat → List Oper → Prop
  | _, [] => True
  | k, o :: r => ((specAt S k).on = true → PartG P l S D a0 w0 Q k o) ∧ PartsG P l S D a0 w0 Q (k + 1) r
theorem PartsG.at {l : List Oper} {S : List Spec} {D : Nat → Nat} {a0 : Act} {w0 : World} : ∀ (r : List Oper) (k : Nat), PartsG P l S D a0 w0 Q k r → ∀ i o, r[i]? = some o → (specAt S (k + i)).on = true → PartG P l S D a0 w0 Q (k + i) o := by
  intro r
  induction r with
  | nil => intro k _ i o h; simp at h
  | cons x r ih =>
    intro k h i o ho
    cases i with
    | zero => simp at ho; subst ho; exact h.1
    | succ i =>
      have := ih (k + 1) h.2 i o (by simpa using ho)
      rwa [Nat.add_right_comm] at this
def Spec.value : Spec → Value
  | .val v => v
  | _ => undef
theorem act_ext {a b : Act} (h1 : a.tmps.size = b.tmps.size) (h2 : a.defers = b.defers) (h3 : ∀ x, a.eval (.tmp x) = b.eval (.tmp x)) : a = b := by
  obtain ⟨t, d⟩ := a
  obtain ⟨t', d'⟩ := b
  simp only at h1 h2
  subst h2
  congr 1
  apply Array.ext h1
  intro i hi hi'
  have := h3 i
  simpa [Act.eval, hi, hi'] using this
end
end Go.Proofs.YtodhmbnfliajiaaGreatDoor.Q
