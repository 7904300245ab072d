/- Opens: a text of this claim's proof, as printed or written, without what the claim does not use. -/
import Derived.ChangeArms
import Derived.DataReads
import Derived.Test.YtodhmbnfliajiaaDoorWWords
import Derived.Test.YtodhmbnfliajiaaDoorProg
namespace Go.Proofs.YtodhmbnfliajiaaDoor.Opens
open Go.RowKit Go.Proofs.YtodhmbnfliajiaaDoorW.PrintWords
def At {α : Type} (P : Program) (t : TypeId) (d : Kd α) (Wf : α → Prop) (fuel : Nat) : Prop :=
  ∀ (H : Type) (enc : TypeId × Value → H) (w : World) (cs : List Value) (x : DataW H × List MemPlace), DataW.trod enc P w 0 (fun _ => true) true fuel t cs = some x → ∃ a, d.K w a cs ∧ Wf a
section
variable {P : Program} {t : TypeId} {fuel : Nat}
theorem int {k : IntKind} (ht : P.underlying t = some (.int k)) : At P t (Kd.int k) (fun n => (Lit.int k n).wf = true) fuel := fun _ _ _ _ _ h => by
  obtain ⟨n, rfl, _, hw⟩ := DataW.trod_int ht h
  exact ⟨n, rfl, hw⟩
theorem bool (ht : P.underlying t = some .bool) : At P t Kd.bool (fun _ => True) fuel := fun _ _ _ _ _ h => by
  obtain ⟨b, rfl, _⟩ := DataW.trod_bool ht h
  exact ⟨b, rfl, trivial⟩
theorem string (ht : P.underlying t = some .string) : At P t Kd.string (fun s => s.size ≤ maxLen) fuel := fun _ _ _ _ _ h => by
  obtain ⟨s, rfl, _, hs⟩ := DataW.trod_string ht h
  exact ⟨s, rfl, hs⟩
end
theorem choose_list {α : Type} {p : Nat → α → Prop} : ∀ (n : Nat), (∀ i, i < n → ∃ a, p i a) → ∃ l : List α, l.length = n ∧ ∀ i a, l[i]? = some a → p i a
  | 0, _ => ⟨[], rfl, fun i a h => by simp at h⟩
  | n + 1, h => by
    obtain ⟨l, hl, hp⟩ := choose_list n (fun i hi => h i (by omega))
    obtain ⟨a, ha⟩ := h n (by omega)
    refine ⟨l ++ [a], by simp [hl], fun i b hb => ?_⟩
    by_cases hi : i < n
    · rw [List.getElem?_append_left (by omega)] at hb; exact hp i b hb
    · rw [List.getElem?_append_right (by omega)] at hb
      have : i - l.length = 0 := by
        cases hq : i - l.length with
        | zero => rfl
        | succ m => rw [hq] at hb; simp at hb
      rw [this] at hb; simp at hb; subst hb
      rw [show i = n by omega]; exact ha
theorem slice {α : Type} {P : Program} {t e : TypeId} {d : Kd α} {Wf : α → Prop} {fuel : Nat} (ht : P.underlying t = some (.slice e)) (hsz : P.cellsOf e = d.sz) (he : At P e d Wf fuel) :
    At P t (Kd.slice e d) (fun l => l.length ≤ maxLen ∧ ∀ x ∈ l, Wf x) (fuel + 1) := fun H enc w cs x h => by
  rcases DataW.trod_slice ht h with ⟨rfl, _⟩ | ⟨a, len, cap, elems, rest, n, hn, rfl, _, _, hlc, hcm, hel, hall, _⟩
  · refine ⟨[], ⟨none, 0, rfl, Nat.le_refl _, rfl, by simp, fun h => absurd h (by simp)⟩, by simp, fun x hx => by cases hx⟩
  · obtain rfl : n = fuel := by omega
    have hone : ∀ i, i < len → ∃ b, (∃ c, d.K w b c ∧ c.length = d.sz ∧ ∀ q u, c[q]? = some u → w.cell? (a.add (i * d.sz + q)) = some u) ∧ Wf b := fun i hi => by
      have h1 := hall i hi
      rw [List.getElem?_eq_getElem (by omega)] at h1
      obtain ⟨c, hc, ht'⟩ := Option.bind_eq_some_iff.1 h1
      obtain ⟨b, hb, hw⟩ := he H enc w c _ ht'
      refine ⟨b, ⟨c, hb, d.K_len hb, fun q u hq => ?_⟩, hw⟩
      obtain ⟨_, hlen, hcell⟩ := World.cells?_some hc
      have hq' : q < c.length := (List.getElem?_eq_some_iff.1 hq).1
      have := hcell q (by omega)
      rw [hsz] at this hlen
      rw [← Addr.add_add a (i * d.sz) q, this]; exact hq
    obtain ⟨l, hl, hp⟩ := choose_list len hone
    refine ⟨l, ⟨some a, cap, by rw [hl], by omega, rfl, by simp only [maxLen] at hcm; omega, fun _ => ⟨a, rfl, fun j p hj => ?_⟩⟩, by simp only [maxLen] at hcm ⊢; omega, fun x hx => ?_⟩
    · obtain ⟨⟨c, hk, hcl, hcc⟩, _⟩ := hp j p hj
      exact ⟨c, hcl, hk, hcc⟩
    · obtain ⟨i, hi, rfl⟩ := List.getElem_of_mem hx
      exact (hp i _ (List.getElem?_eq_getElem hi)).2
def Fields {α : Type} (P : Program) (fs : List Field) (off : Nat) (d : Kd α) (Wf : α → Prop) (fuel : Nat) : Prop :=
  ∀ (H : Type) (enc : TypeId × Value → H) (w : World) (cs : List Value), off + d.sz ≤ cs.length →
    (∀ f ∈ fs, ∃ x, DataW.trod (H := H) enc P w 0 (fun _ => true) true fuel f.type ((cs.drop f.offset).take (P.cellsOf f.type)) = some x) →
    ∃ a, d.K w a ((cs.drop off).take d.sz) ∧ Wf a
theorem struct {α β : Type} {P : Program} {t : TypeId} {fs : Array Field} {d : Kd α} {Wf : α → Prop} {fuel : Nat} (ht : P.underlying t = some (.struct fs)) (hsz : P.cellsOf t = d.sz) (h : Fields P fs.toList 0 d Wf fuel) (f : β → α) (g : α → β) (hfg : ∀ x, f (g x) = x) :
    At P t (Kd.iso d f) (fun y => Wf (f y)) (fuel + 1) := fun H enc w cs x hx => by
  obtain ⟨xs, n, hn, _, hlen, hxs, hall⟩ := DataW.trod_struct ht hx
  obtain rfl : n = fuel := by omega
  rw [hsz] at hlen
  obtain ⟨a, ha, hw⟩ := h H enc w cs (by omega) (fun q hq => by
    obtain ⟨i, hi, rfl⟩ := List.getElem_of_mem hq
    have hi' : i < fs.size := by simpa using hi
    have := hall i fs[i] (Array.getElem?_eq_getElem hi')
    rw [List.getElem?_eq_getElem (by omega)] at this
    exact ⟨_, by simpa using this⟩)
  rw [List.drop_zero, List.take_of_length_le (by omega)] at ha
  exact ⟨g a, by show d.K w (f (g a)) cs; rw [hfg]; exact ha, by show Wf (f (g a)); rw [hfg]; exact hw⟩
theorem zero {α : Type} {P : Program} {t : TypeId} {d : Kd α} {Wf : α → Prop} : At P t d Wf 0 := fun _ _ _ _ _ h => by simp [DataW.trod] at h
end Go.Proofs.YtodhmbnfliajiaaDoor.Opens
