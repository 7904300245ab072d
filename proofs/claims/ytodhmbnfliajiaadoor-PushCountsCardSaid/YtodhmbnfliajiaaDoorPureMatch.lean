/- PureMatch: a text of this claim's proof, as printed or written, without what the claim does not use. -/
namespace Go.Proofs.YtodhmbnfliajiaaDoor.Q
section
variable {α β : Type} (star : α → Bool) (ok : α → β → Bool)
def mtB : List α → List β → Bool
  | [], s => s.isEmpty
  | p :: ps, s => if star p then (List.range (s.length + 1)).any (fun j => mtB ps (s.drop j)) else
      match s with
      | [] => false
      | x :: t => ok p x && mtB ps t
theorem mtB_star {p : α} (ps : List α) (s : List β) (h : star p = true) : mtB star ok (p :: ps) s = true ↔ ∃ j, j ≤ s.length ∧ mtB star ok ps (s.drop j) = true := by
  simp only [mtB, h, if_true, List.any_eq_true, List.mem_range]
  exact ⟨fun ⟨j, h1, h2⟩ => ⟨j, by omega, h2⟩, fun ⟨j, h1, h2⟩ => ⟨j, by omega, h2⟩⟩
theorem mtB_one {p : α} (ps : List α) (x : β) (t : List β) (h : star p = false) : mtB star ok (p :: ps) (x :: t) = (ok p x && mtB star ok ps t) := by
  simp [mtB, h]
theorem mtB_none {p : α} (ps : List α) (h : star p = false) : mtB star ok (p :: ps) [] = false := by
  simp [mtB, h]
theorem mtB_plain (g q : List α) (hg : ∀ a ∈ g, star a = false) : ∀ s : List β, mtB star ok (g ++ q) s = true → g.length ≤ s.length ∧ mtB star ok q (s.drop g.length) = true := by
  induction g with
  | nil => intro s h; exact ⟨Nat.zero_le _, by simpa using h⟩
  | cons a g ih =>
    intro s h
    have ha := hg a (List.mem_cons_self ..)
    cases s with
    | nil => rw [List.cons_append, mtB_none _ _ _ ha] at h; cases h
    | cons x t =>
      rw [List.cons_append, mtB_one _ _ _ _ _ ha, Bool.and_eq_true] at h
      have := ih (fun b hb => hg b (List.mem_cons_of_mem _ hb)) t h.2
      exact ⟨by simp; omega, by simpa using this.2⟩
end
end Go.Proofs.YtodhmbnfliajiaaDoor.Q
