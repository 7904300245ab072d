/- Chains: a text of this claim's proof, as printed or written, without what the claim does not use. -/
import Derived.WalkKit
import Derived.Test.YtodhmbnfliajiaaDoorWWords
import Derived.Test.YtodhmbnfliajiaaDoorWApart
import Derived.Test.YtodhmbnfliajiaaDoorJ4
import Derived.Test.YtodhmbnfliajiaaDoorWN
namespace Go.Proofs.YtodhmbnfliajiaaDoor.Q
open Go.RowKit Go.Proofs.YtodhmbnfliajiaaDoorW.PrintWords Go.Proofs.YtodhmbnfliajiaaDoorW.PrintLast
section
variable {α β : Type} {d : Kd α} {d' : Kd β} {e e' base base' : Nat} {ok ok' : Nat → Prop} {W w1 : World} {u v v1 : Value} {xs : List α} {ys : List β}
def Flat (d : Kd α) : Prop := ∀ {w : World} {base : Nat} {ok1 ok2 : Nat → Prop} {x : α} {cs : List Value}, d.M w base ok1 x cs → d.M w base ok2 x cs
theorem flat_string : Flat Kd.string := fun h => h
theorem flat_raw (n : Nat) : Flat (Kd.raw n) := fun h => h
theorem R_other (hd : Flat d) (h : d.R e W base ok u xs) (hg : W.grownBy w1 v.ownBlock) (ha : ∀ k, u.ownBlock = some k → some k ≠ v.ownBlock) : d.R e w1 base ok u xs := by
  have h2 : d.R e W base (fun k => ok k ∧ some k ≠ v.ownBlock) u xs := Kd.R_flat hd h (fun k hk hok => ⟨hok, ha k hk⟩)
  exact Kd.R_mono (Kd.R_grown h2 hg (fun k hk => hk.2)) (fun k hk => hk.1)
theorem R_types (hu : d.R e W base ok u xs) (hv : d'.R e' W base' ok' v ys) (hne : e ≠ e') : ∀ k, u.ownBlock = some k → some k ≠ v.ownBlock := by
  intro k hk
  obtain ⟨inner, ho⟩ := Kd.R_own hu
  obtain ⟨cells, hc⟩ := own_typed ho k hk
  exact Kd.R_ne hv hc (Ne.symm hne)
end
def Chain {α : Type} (d : Kd α) (e n0 : Nat) (l : List α) (x : α) (p q r s : Bool) (v0 v3 v5 v6 : Value) (w : World) : Prop :=
  (p = true → q = false → d.R e w n0 (fun _ => True) v0 []) ∧
  (q = true → s = false → d.R e w n0 (fun _ => True) v3 l) ∧
  (r = true → s = false → d.R e w n0 (fun k => (p = true → q = false → some k ≠ v0.ownBlock) ∧ (q = true → some k ≠ v3.ownBlock)) v5 [x]) ∧
  (s = true → d.R e w n0 (fun _ => True) v6 (l ++ [x]))
section
variable {α : Type} {d : Kd α} {e n0 : Nat} {l : List α} {x : α} {p q r s : Bool} {v0 v3 v5 v6 : Value} {w w1 : World}
theorem Chain.none (d : Kd α) (e n0 : Nat) (l : List α) (x : α) (v0 v3 v5 v6 : Value) (w : World) : Chain d e n0 l x false false false false v0 v3 v5 v6 w :=
  ⟨fun h => (by cases h), fun h => (by cases h), fun h => (by cases h), fun h => (by cases h)⟩
theorem Chain.below (h : Chain d e n0 l x p q r s v0 v3 v5 v6 w) (hb : Below w.heap.size w w1) : Chain d e n0 l x p q r s v0 v3 v5 v6 w1 :=
  ⟨fun h1 h2 => Kd.R_below (h.1 h1 h2) hb, fun h1 h2 => Kd.R_below (h.2.1 h1 h2) hb, fun h1 h2 => Kd.R_below (h.2.2.1 h1 h2) hb, fun h1 => Kd.R_below (h.2.2.2 h1) hb⟩
theorem Chain.other {β : Type} {d' : Kd β} {e' base' : Nat} {ok' : Nat → Prop} {v : Value} {ys : List β} (hd : Flat d) (h : Chain d e n0 l x p q r s v0 v3 v5 v6 w) (hv : d'.R e' w base' ok' v ys) (hne : e ≠ e') (hg : w.grownBy w1 v.ownBlock) : Chain d e n0 l x p q r s v0 v3 v5 v6 w1 :=
  ⟨fun h1 h2 => R_other hd (h.1 h1 h2) hg (R_types (h.1 h1 h2) hv hne), fun h1 h2 => R_other hd (h.2.1 h1 h2) hg (R_types (h.2.1 h1 h2) hv hne),
   fun h1 h2 => R_other hd (h.2.2.1 h1 h2) hg (R_types (h.2.2.1 h1 h2) hv hne), fun h1 => R_other hd (h.2.2.2 h1) hg (R_types (h.2.2.2 h1) hv hne)⟩
theorem Chain.start (hd : Flat d) (h : Chain d e n0 l x false false r s v0 v3 v5 v6 w) (hs : s = false) {u : Value} {ok : Nat → Prop} (hn : n0 ≤ w.heap.size) (hb : Below w.heap.size w w1) (ho : d.R e w1 w.heap.size ok u []) : Chain d e n0 l x true false r s u v3 v5 v6 w1 := by
  subst hs
  refine ⟨fun _ _ => Kd.R_mono (Kd.R_lower ho hn) (fun _ _ => trivial), fun h1 => (by cases h1), fun h1 h2 => ?_, fun h1 => (by cases h1)⟩
  have h5 := h.2.2.1 h1 h2
  exact Kd.R_flat hd (Kd.R_below h5 hb) (fun k hk _ => ⟨fun _ _ he => by have := Kd.R_lt h5 k hk; have := Kd.R_base ho k he.symm; omega, fun h3 => (by cases h3)⟩)
theorem Chain.lit (hd : Flat d) (h : Chain d e n0 l x p q false s v0 v3 v5 v6 w) (hs : s = false) {u : Value} {ok : Nat → Prop} (hn : n0 ≤ w.heap.size) (hb : Below w.heap.size w w1) (ho : d.R e w1 w.heap.size ok u [x]) : Chain d e n0 l x p q true s v0 v3 u v6 w1 := by
  subst hs
  refine ⟨fun h1 h2 => Kd.R_below (h.1 h1 h2) hb, fun h1 h2 => Kd.R_below (h.2.1 h1 h2) hb, fun _ _ => ?_, fun h1 => (by cases h1)⟩
  refine Kd.R_flat hd (Kd.R_lower ho hn) (fun k hk _ => ⟨fun h1 h2 he => ?_, fun h1 he => ?_⟩)
  · have := Kd.R_lt (h.1 h1 h2) k he.symm; have := Kd.R_base ho k hk; omega
  · have := Kd.R_lt (h.2.1 h1 rfl) k he.symm; have := Kd.R_base ho k hk; omega
theorem Chain.first (h : Chain d e n0 l x true false r s v0 v3 v5 v6 w) (hs : s = false) {u : Value} {ok : Nat → Prop} (hg : w.grownBy w1 v0.ownBlock) (hat : u.ownBlock = v0.ownBlock ∨ ∃ b, u.ownBlock = some b ∧ w.heap.size ≤ b) (ho : d.R e w1 n0 ok u ([] ++ l)) : Chain d e n0 l x true true r s v0 u v5 v6 w1 := by
  subst hs
  refine ⟨fun _ h2 => (by cases h2), fun _ _ => Kd.R_mono ho (fun _ _ => trivial), fun h1 h2 => ?_, fun h1 => (by cases h1)⟩
  have h5 := Kd.R_mono (ok' := fun k => True ∧ some k ≠ v0.ownBlock) (h.2.2.1 h1 h2) (fun k hk => ⟨trivial, hk.1 rfl rfl⟩)
  exact Kd.R_mono (Kd.R_after (ok := fun _ => True) h5 hg hat) (fun k hk => ⟨fun _ h3 => (by cases h3), fun _ => hk.2⟩)
theorem Chain.second (_h : Chain d e n0 l x true true true false v0 v3 v5 v6 w) {u : Value} {ok : Nat → Prop} (ho : d.R e w1 n0 ok u (l ++ [x])) : Chain d e n0 l x true true true true v0 v3 v5 u w1 :=
  ⟨fun _ h2 => (by cases h2), fun _ h2 => (by cases h2), fun _ h2 => (by cases h2), fun _ => Kd.R_mono ho (fun _ _ => trivial)⟩
end
end Go.Proofs.YtodhmbnfliajiaaDoor.Q
