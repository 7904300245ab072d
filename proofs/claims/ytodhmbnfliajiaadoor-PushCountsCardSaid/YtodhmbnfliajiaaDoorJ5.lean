/- Merged out of: Tabs, Qx1, PureSort. -/
import Derived.Test.YtodhmbnfliajiaaDoorWWords
import Derived.Test.YtodhmbnfliajiaaDoorShelf
import Derived.Lib.LaidU8
import Derived.Test.YtodhmbnfliajiaaDoorQx0
/- Tabs: a text of this claim's proof, as printed or written, without what the claim does not use. -/
namespace Go.Proofs.YtodhmbnfliajiaaDoor.Q
open Go.RowKit Go.Shelf Go.Proofs.YtodhmbnfliajiaaDoorW.PrintWords
def Tabs (w : World) : Prop := Lib.Utf8Tabs 1 2 w ∧ ∃ m : Int, w.cell? ⟨0, 0, none⟩ = some (.int .i64 m)
theorem Tabs.below {w W : World} (h : Tabs w) (hb : Below w.heap.size w W) : Tabs W := by
  obtain ⟨⟨h1, h2⟩, m, h3⟩ := h
  exact ⟨⟨fun c hc => pw_cell_below hb (h1 c hc), fun i hi => ⟨pw_cell_below hb (h2 i hi).1, pw_cell_below hb (h2 i hi).2⟩⟩, m, pw_cell_below hb h3⟩
end Go.Proofs.YtodhmbnfliajiaaDoor.Q

/- Qx1: a text of this claim's proof, as printed or written, without what the claim does not use. -/
namespace Go.Proofs.YtodhmbnfliajiaaDoor.Q
open Go.RowKit Go.Proofs.YtodhmbnfliajiaaDoorW.PrintWords Go.Proofs.YtodhmbnfliajiaaDoorW.PrintLast Go.Proofs.YtodhmbnfliajiaaDoorW.PrintMore
attribute [local go_sem] max2_int min2_int max_two min_two max_three min_three max_four min_four
set_option linter.unusedVariables false
set_option linter.unusedSimpArgs false
theorem eqA68 (d : Nat) (w : World) (x0 y0 : Int) (x1 y1 : Bool) :
    (Op.equalIn (d + 2) 68 (.agg #[.int .i32 x0, .bool x1]) (.agg #[.int .i32 y0, .bool y1])).run Tryd.prog w = .ok (x0 == y0 && (x1 == y1)) w := by
  refine eqA_of Tryd.underlying68 (by kernel_rfl) ?_
  refine eqf_cons (by rfl) (by go_simp; rfl) (by go_simp; rfl) (by go_simp) ?_
  exact eqf_last (by rfl) (by go_simp; rfl) (by go_simp; rfl) (by go_simp)
end Go.Proofs.YtodhmbnfliajiaaDoor.Q


/- PureSort: a text of this claim's proof, as printed or written, without what the claim does not use. -/
namespace Go.Proofs.YtodhmbnfliajiaaDoor.Q
def Lex (key : Nat → Int) (a b : Nat) : Prop := key a < key b ∨ (key a = key b ∧ a < b)
theorem Lex.trans {key : Nat → Int} {a b c : Nat} (h : Lex key a b) (k : Lex key b c) : Lex key a c := by
  unfold Lex at *; omega
theorem first_least (key : Nat → Int) (p : Nat → Bool) : ∀ l : List Nat, l.Pairwise (Lex key) → ∀ i, l.find? p = some i → p i = true ∧ i ∈ l ∧ ∀ k ∈ l, p k = true → i = k ∨ Lex key i k
  | [], _, i, h => by simp at h
  | a :: l, hp, i, h => by
    have hq := List.pairwise_cons.1 hp
    by_cases c : p a = true
    · rw [List.find?_cons_of_pos c] at h
      injection h with h
      subst h
      refine ⟨c, List.mem_cons_self .., fun k hk _ => ?_⟩
      rcases List.mem_cons.1 hk with rfl | hk
      · exact Or.inl rfl
      · exact Or.inr (hq.1 k hk)
    · rw [List.find?_cons_of_neg c] at h
      obtain ⟨h1, h2, h3⟩ := first_least key p l hq.2 i h
      refine ⟨h1, List.mem_cons_of_mem _ h2, fun k hk hpk => ?_⟩
      rcases List.mem_cons.1 hk with rfl | hk
      · exact absurd hpk c
      · exact h3 k hk hpk
end Go.Proofs.YtodhmbnfliajiaaDoor.Q

