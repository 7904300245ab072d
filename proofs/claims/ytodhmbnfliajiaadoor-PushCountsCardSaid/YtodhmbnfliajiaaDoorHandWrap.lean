/- HandWrap: a text of this claim's proof, as printed or written, without what the claim does not use. -/
import Derived.Test.YtodhmbnfliajiaaDoorHandFind
import Derived.Test.YtodhmbnfliajiaaDoorQx0
namespace Go.Proofs.YtodhmbnfliajiaaDoor.Q
open Go.RowKit Go.Shelf Go.Proofs.YtodhmbnfliajiaaDoorW.PrintWords Go.Proofs.YtodhmbnfliajiaaDoorW.PrintLast
set_option linter.unusedVariables false
def evSmall (x : EvV) : Bool := decide (x.room.size ≤ 1000000000 ∧ x.type.size ≤ 1000000000 ∧ x.sender.size ≤ 1000000000 ∧ x.key.size ≤ 1000000000 ∧ x.keys.length ≤ 1000000000) && x.list.all fun v => decide (v.f2.size ≤ 1000000000)
theorem evSmall_field (x : EvV) (h : evSmall x = true) (k : ByteArray) : (fieldB x k).2.2.size ≤ 1000000000 := by
  unfold evSmall at h
  rw [Bool.and_eq_true, decide_eq_true_eq, List.all_eq_true] at h
  obtain ⟨⟨h1, h2, h3, h4, h5⟩, h6⟩ := h
  unfold fieldB
  have he : (⟨#[]⟩ : ByteArray).size = 0 := rfl
  split
  · exact h2
  split
  · exact h3
  split
  · exact h1
  split
  · split
    · exact h4
    · simp [he]
  split
  · split
    · simp [he]
    · next v hv =>
      unfold aclValue at hv
      split at hv
      · cases hv
      split at hv
      · cases hv
      split at hv
      · cases hv
      · next q1 q2 q3 =>
        injection hv with hv
        have hlt : (aclIdx x.keys (k.extract 8 k.size) 0).toNat < x.list.length := by omega
        have hm : v ∈ x.list := by
          rw [← hv]; unfold rd_T26
          rw [List.getD_eq_getElem?_getD, List.getElem?_eq_getElem hlt]
          exact List.getElem_mem hlt
        have := h6 v hm
        simpa using this
  · simp [he]
theorem evSmall_keys (x : EvV) (h : evSmall x = true) : x.keys.length ≤ 1000000000 := by
  unfold evSmall at h
  rw [Bool.and_eq_true, decide_eq_true_eq] at h
  exact h.1.2.2.2.2
def rulesSmall (l : List S51) : Bool := decide (l.length ≤ 16) && l.all fun r => decide (r.f3.length ≤ 9223372036854775806) && r.f3.all fun q => decide (q.f2.size ≤ 1000000000)
theorem rulesSmall_iff {l : List S51} (h : rulesSmall l = true) : l.length ≤ 16 ∧ ∀ r ∈ l, r.f3.length ≤ 9223372036854775806 ∧ ∀ q ∈ r.f3, q.f2.size ≤ 1000000000 := by
  unfold rulesSmall at h
  rw [Bool.and_eq_true, decide_eq_true_eq, List.all_eq_true] at h
  refine ⟨h.1, fun r hr => ?_⟩
  have := h.2 r hr
  rw [Bool.and_eq_true, decide_eq_true_eq, List.all_eq_true] at this
  exact ⟨this.1, fun q hq => by simpa using this.2 q hq⟩
end Go.Proofs.YtodhmbnfliajiaaDoor.Q
