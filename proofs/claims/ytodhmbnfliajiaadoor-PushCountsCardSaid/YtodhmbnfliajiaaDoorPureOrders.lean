/- PureOrders: a text of this claim's proof, as printed or written, without what the claim does not use. -/
import Derived.WalkKit
import Derived.Orders
import Derived.RegionTactic
import Derived.StillTail
import Derived.Great.Frames
import Derived.Test.YtodhmbnfliajiaaDoorQx0
namespace Go.Proofs.YtodhmbnfliajiaaDoor.Q
open Go.RowKit Go.Proofs.YtodhmbnfliajiaaDoorW.PrintWords
set_option linter.unusedVariables false
set_option linter.unnecessarySimpa false
section
variable {P : Program} {ops : Array Oper} {Q : Exit → Act → World → Prop}
def looksBack (l : List Oper) : Bool := (List.range l.length).all fun i => match l[i]? with
  | none => true
  | some o => o.guard.isNone && o.after.all fun e => !Region.binds .any e || decide (e.on < i)
theorem looksBack_spec {l : List Oper} (h : looksBack l = true) {i : Nat} {o : Oper} (ho : l[i]? = some o) : o.guard = none ∧ ∀ e ∈ o.after, Region.binds .any e = true → e.on < i := by
  unfold looksBack at h
  rw [List.all_eq_true] at h
  have hi := (List.getElem?_eq_some_iff.1 ho).1
  have := h i (List.mem_range.2 hi)
  rw [ho] at this
  simp only [Bool.and_eq_true, Option.isNone_iff_eq_none, Array.all_eq_true_iff_forall_mem, Bool.or_eq_true, Bool.not_eq_true', decide_eq_true_eq] at this
  exact ⟨this.1, fun e he hb => (this.2 e he).resolve_left (by rw [hb]; decide)⟩
structure Stands (V : Nat → World → Value → Prop) (D : Nat → Nat) (n : Nat) (a0 : Act) (w0 : World) (listed : Array Bool) (a : Act) (w : World) : Prop where
  below : Below w0.heap.size w0 w
  size : a.tmps.size = a0.tmps.size
  defers : a.defers = a0.defers
  kept : ∀ x, (∀ i, i < n → D i ≠ x) → a.eval (.tmp x) = a0.eval (.tmp x)
  done : ∀ i, i < n → listed.getD i false = true → V i w (a.eval (.tmp (D i)))
def Part (P : Program) (l : List Oper) (V : Nat → World → Value → Prop) (D : Nat → Nat) (a0 : Act) (w0 : World) (Q : Exit → Act → World → Prop) (i : Nat) (o : Oper) : Prop :=
  ∀ a w, Below w0.heap.size w0 w → (∀ x, (∀ i, i < l.length → D i ≠ x) → a.eval (.tmp x) = a0.eval (.tmp x)) → (∀ e ∈ o.after, Region.binds .any e = true → V e.on w (a.eval (.tmp (D e.on)))) →
    ∀ K : Act → World → Prop, (∀ v w', V i w' v → Below w.heap.size w w' → K (a.put o.dst v) w') → Oper.wp P o a w K Q
theorem wpAny_parts (l : List Oper) (hl : looksBack l = true) (V : Nat → World → Value → Prop) (D : Nat → Nat) (a0 : Act) (w0 : World)
    (hV : ∀ i w w' v, Below w.heap.size w w' → V i w v → V i w' v)
    (hD : ∀ i o, l[i]? = some o → o.dst = some (D i)) (hinj : ∀ i j, i < l.length → j < l.length → D i = D j → i = j) (hin : ∀ i, i < l.length → D i < a0.tmps.size)
    (hp : ∀ i o, l[i]? = some o → Part P l V D a0 w0 Q i o)
    (hq : ∀ a w, Below w0.heap.size w0 w → a.tmps.size = a0.tmps.size → a.defers = a0.defers → (∀ x, (∀ i, i < l.length → D i ≠ x) → a.eval (.tmp x) = a0.eval (.tmp x)) → (∀ i, i < l.length → V i w (a.eval (.tmp (D i)))) → Q .normal a w) :
    ∀ fuel listed a w, listed.size = l.length → listed.toList.count false ≤ fuel → Stands V D l.length a0 w0 listed a w → wpAny P .any l.toArray Q fuel listed a w := by
  have all_of : ∀ (listed : Array Bool), listed.size = l.length → Region.ready .any l.toArray listed = [] → ∀ j, j < l.length → listed.getD j false = true := by
    intro listed hs hr j
    induction j using Nat.strongRecOn with
    | _ j ih =>
      intro hj
      cases hc : listed.getD j false with
      | true => rfl
      | false =>
        exfalso
        have ho : l[j]? = some l[j] := List.getElem?_eq_getElem hj
        have : j ∈ Region.ready .any l.toArray listed := by
          refine mem_ready.2 ⟨?_, l[j], by simpa using ho, fun e he hb => ?_⟩
          · have hlt : j < listed.size := by omega
            simp only [Array.getD_eq_getD_getElem?, Array.getElem?_eq_getElem hlt, Option.getD_some] at hc ⊢
            exact hc
          · have hlt := (looksBack_spec hl ho).2 e he hb
            exact ih e.on hlt (by omega)
        rw [hr] at this
        cases this
  intro fuel
  induction fuel with
  | zero =>
    intro listed a w hs hc hI
    have hall : ∀ j, j < l.length → listed.getD j false = true := by
      intro j hj
      have hlt : j < listed.size := by omega
      have hm : false ∉ listed.toList := by
        intro h; have := List.count_pos_iff.2 h; omega
      simp only [Array.getD_eq_getD_getElem?, Array.getElem?_eq_getElem hlt, Option.getD_some]
      cases hx : listed[j] with
      | true => rfl
      | false => exact absurd (by rw [← hx]; simp) hm
    refine ⟨?_, hq a w hI.below hI.size hI.defers hI.kept (fun i hi => hI.done i hi (hall i hi))⟩
    apply List.eq_nil_iff_forall_not_mem.2
    intro j hj
    obtain ⟨h1, o, ho, -⟩ := mem_ready.1 hj
    have hlt : j < l.length := by
      have := (Array.getElem?_eq_some_iff.1 ho).1; simpa using this
    have h2 := hall j hlt
    have hlt' : j < listed.size := by omega
    simp only [Array.getD_eq_getD_getElem?, Array.getElem?_eq_getElem hlt', Option.getD_some] at h1 h2
    rw [h1] at h2; cases h2
  | succ fuel ih =>
    intro listed a w hs hc hI
    refine ⟨fun hr => hq a w hI.below hI.size hI.defers hI.kept (fun i hi => hI.done i hi (all_of listed hs hr i hi)), fun i hi => ?_⟩
    obtain ⟨h1, o, ho, hdep⟩ := mem_ready.1 hi
    have ho' : l[i]? = some o := by simpa using ho
    have hlt : i < l.length := (List.getElem?_eq_some_iff.1 ho').1
    have hlt' : i < listed.size := by omega
    refine wpOp_step (P := P) (ops := l.toArray) (i := i) (o := o) ho (fun K' hK => ?_)
    have hg := (looksBack_spec hl ho').1
    rw [if_pos (by simp [Region.wanted, hg])]
    refine hp i o ho' a w hI.below hI.kept (fun e he hb => hI.done e.on (by have := (looksBack_spec hl ho').2 e he hb; omega) (hdep e he hb)) K' (fun v w' hv hb => hK _ _ ?_)
    have hf : listed.toList[i]'(by simpa using hlt') = false := by
      simp only [Array.getD_eq_getD_getElem?, Array.getElem?_eq_getElem hlt', Option.getD_some] at h1
      simpa using h1
    refine ih _ _ _ (by simpa using hs) ?_ ?_
    · rw [Array.toList_setIfInBounds, List.count_set (by simpa using hlt')]
      have hpos : 0 < listed.toList.count false := List.count_pos_iff.2 (by rw [← hf]; exact List.getElem_mem _)
      rw [hf]
      generalize listed.toList.count false = m at *
      have e1 : (if (false == false) = true then 1 else 0) = 1 := rfl
      have e2 : (if (true == false) = true then 1 else 0) = 0 := rfl
      rw [e1, e2]
      omega
    · have hd := hD i o ho'
      rw [hd]
      have hDi := hin i hlt
      refine ⟨below_step hI.below hb, ?_, ?_, fun x hx => ?_, fun j hj hlj => ?_⟩
      · simpa [Act.put] using hI.size
      · simpa [Act.put] using hI.defers
      · rw [Act.eval_put_ne _ _ _ _ (hx i hlt)]; exact hI.kept x hx
      · by_cases hij : i = j
        · subst hij
          rw [Act.eval_put_same _ _ _ (by rw [hI.size]; exact hDi)]
          exact hv
        · rw [Act.eval_put_ne _ _ _ _ (fun e => hij (hinj i j hlt hj e))]
          refine hV j w w' _ hb (hI.done j hj ?_)
          rwa [getD_set_ne false hij] at hlj
def PartsFrom (P : Program) (l : List Oper) (V : Nat → World → Value → Prop) (D : Nat → Nat) (a0 : Act) (w0 : World) (Q : Exit → Act → World → Prop) : Nat → List Oper → Prop
  | _, [] => True
  | k, o :: r => Part P l V D a0 w0 Q k o ∧ PartsFrom P l V D a0 w0 Q (k + 1) r
theorem PartsFrom.at {l : List Oper} {V : Nat → World → Value → Prop} {D : Nat → Nat} {a0 : Act} {w0 : World} : ∀ (r : List Oper) (k : Nat), PartsFrom P l V D a0 w0 Q k r → ∀ i o, r[i]? = some o → Part P l V D a0 w0 Q (k + i) o := by
  intro r
  induction r with
  | nil => intro k _ i o h; simp at h
  | cons x r ih =>
    intro k h i o ho
    cases i with
    | zero => simp at ho; subst ho; exact h.1
    | succ i =>
      have := ih (k + 1) h.2 i o (by simpa using ho)
      rwa [Nat.add_right_comm] at this
def slotAt (ds : List Nat) (i : Nat) : Nat := ds.getD i 0
def slotsOk (l : List Oper) (ds : List Nat) (m : Nat) : Bool := decide (l.map (·.dst) = ds.map some) && (decide ds.Nodup && ds.all fun d => decide (d < m))
theorem wp_region_parts {id : Nat} {a0 : Act} {w : World} (l : List Oper) (ds : List Nat) (V : Nat → World → Value → Prop) (hm : P.follows .mixedOrders = true) (hl : looksBack l = true) (hs : slotsOk l ds a0.tmps.size = true)
    (hV : ∀ i w w' v, Below w.heap.size w w' → V i w v → V i w' v)
    (hp : PartsFrom P l V (slotAt ds) a0 w.drew Q 0 l)
    (hq : ∀ a w', Below w.heap.size w w' → a.tmps.size = a0.tmps.size → a.defers = a0.defers → (∀ x, x ∉ ds → a.eval (.tmp x) = a0.eval (.tmp x)) → (∀ i, i < l.length → V i w' (a.eval (.tmp (slotAt ds i)))) → Q .normal a w') : (Code.region id l.toArray true).wp P Q a0 w := by
  unfold slotsOk at hs
  simp only [Bool.and_eq_true, decide_eq_true_eq, List.all_eq_true] at hs
  obtain ⟨hd, hn, hall⟩ := hs
  have hlen : l.length = ds.length := by have := congrArg List.length hd; simpa using this
  have hD : ∀ i o, l[i]? = some o → o.dst = some (slotAt ds i) := by
    intro i o ho
    have h1 : (l.map (·.dst))[i]? = some o.dst := by simp [ho]
    rw [hd] at h1
    have hi : i < ds.length := by rw [← hlen]; exact (List.getElem?_eq_some_iff.1 ho).1
    unfold slotAt
    simp [hi] at h1 ⊢
    exact h1.symm
  have hx : ∀ x, (∀ i, i < l.length → slotAt ds i ≠ x) ↔ x ∉ ds := by
    intro x
    constructor
    · intro h hm
      obtain ⟨i, hi, e⟩ := List.getElem_of_mem hm
      exact h i (by omega) (by unfold slotAt; simp [hi, e])
    · intro h i hi e
      apply h
      rw [← e]
      unfold slotAt
      have : i < ds.length := by omega
      simp [this]
  refine wp_region_any hm ?_
  refine wpAny_parts l hl V (slotAt ds) a0 w.drew hV hD ?_ ?_ (fun i o ho => by have := PartsFrom.at l 0 hp i o ho; rwa [Nat.zero_add] at this) ?_ _ _ _ _ (by simp) ?_ ?_
  · intro i j hi hj e
    unfold slotAt at e
    have hi' : i < ds.length := by omega
    have hj' : j < ds.length := by omega
    simp [hi', hj'] at e
    have hpw := List.pairwise_iff_getElem.1 hn
    rcases Nat.lt_trichotomy i j with h | h | h
    · exact absurd e (hpw i j hi' hj' h)
    · exact h
    · exact absurd e.symm (hpw j i hj' hi' h)
  · intro i hi
    have hi' : i < ds.length := by omega
    exact hall _ (by unfold slotAt; simp [hi'])
  · intro a w' hb h1 h2 h3 h4
    exact hq a w' (below_step (below_drew1 (Below.refl _ _)) hb) h1 h2 (fun x hxx => h3 x ((hx x).2 hxx)) h4
  · simp
  · exact ⟨Below.refl _ _, rfl, rfl, fun _ _ => rfl, fun i hi hc => by rw [getD_replicate_false] at hc; cases hc⟩
end
end Go.Proofs.YtodhmbnfliajiaaDoor.Q
