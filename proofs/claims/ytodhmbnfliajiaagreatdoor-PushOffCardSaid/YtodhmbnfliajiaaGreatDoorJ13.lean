/- Merged out of: Qx7, Chains. -/
import Derived.Test.YtodhmbnfliajiaaGreatDoorQx0
import Derived.WalkKit
import Derived.Test.YtodhmbnfliajiaaGreatDoorWWords
import Derived.Test.YtodhmbnfliajiaaGreatDoorWApart
import Derived.Test.YtodhmbnfliajiaaGreatDoorJ3
import Derived.Test.YtodhmbnfliajiaaGreatDoorJ2
/- Qx7: a text of this claim's proof, as printed or written, without what the claim does not use. -/
namespace Go.Proofs.YtodhmbnfliajiaaGreatDoor.Q
open Go.RowKit Go.Proofs.YtodhmbnfliajiaaGreatDoorW.PrintWords Go.Proofs.YtodhmbnfliajiaaGreatDoorW.PrintLast Go.Proofs.YtodhmbnfliajiaaGreatDoorW.PrintMore
attribute [local go_sem] max2_int min2_int max_two min_two max_three min_three max_four min_four
set_option linter.unusedVariables false
set_option linter.unusedSimpArgs false
def slices_Index_string_string.l0 : Nat → List ByteArray → ByteArray → Int → Int → Option (Int)
  | 0, _, _, _, _ => none
  | k + 1, x0, x1, x7, x8 => if x8 < x7 then (if 0 ≤ x8 then (if x8 < (x0.length : Int) then (if x1.toList = (rdOf ByteArray.empty x0 x8).toList then (some x8) else (slices_Index_string_string.l0 k x0 x1 x7 (wrap64 (x8 + 1)))) else (none)) else (none)) else (some (-1))
def slices_Index_string_string.f (k : Nat) (l0 : List ByteArray) (a1 : ByteArray) : Option (Int) := slices_Index_string_string.l0 k l0 a1 (l0.length : Int) 0
set_option maxHeartbeats 8000000 in
set_option maxRecDepth 100000 in
theorem slices_Index_string_string.calls (k : Nat) (A0 : Option Addr) (c0 : Nat) (l0 : List ByteArray) (a1 : ByteArray) (r : Int) (w : World) (hr0 : Kd.C Kd.string w A0 l0.length l0) (hc0 : l0.length ≤ c0) (h : slices_Index_string_string.f k l0 a1 = some r) :
    Calls Tryz.prog 50 #[.slice A0 l0.length c0, .string a1] w fun e w' => e = .returned (.int .i64 r) ∧ Drawn0 w w' := by
  have HR0 := Aside0.mk hr0
  have HC0 := Aside0.mk hc0
  clear hr0 hc0
  have H : (slices_Index_string_string.l0 k l0 a1 (l0.length : Int) 0) = some r := h
  clear h
  have H' := Aside0.mk H
  clear H
  go_enter Tryz.func50, Tryz.ntmps50
  go_wp2
  go_loopg [8] k (fun kq v8 w' => ∃ (x8_1 : Int), v8 = .int .i64 x8_1 ∧ Aside0 (slices_Index_string_string.l0 kq l0 a1 (l0.length : Int) x8_1 = some r) ∧ Aside0 (kq ≤ k) ∧ Drawn0 w w')
  case atStart => exact ⟨(0), (by first | rfl | (simp; done) | (simp [*]; done)), H', ⟨Nat.le_refl _⟩, by repeat (first | exact Drawn0.refl _ | apply Drawn0.step)⟩
  case round =>
    clear H'
    try clear p2
    obtain ⟨x8_1, rfl, HA, HK1, ⟨m1, rfl⟩⟩ := hrel
    cases gk with
    | zero => exact absurd HA.out (by simp [slices_Index_string_string.l0])
    | succ k1 =>
      have H := HA.out
      clear HA
      simp only [slices_Index_string_string.l0] at H
      by_cases c3 : x8_1 < (l0.length : Int)
      · rw [if_pos c3] at H
        have c3b0 : decide (x8_1 < (l0.length : Int)) = true := decide_eq_true c3
        clear c3
        by_cases c4 : 0 ≤ x8_1
        · rw [if_pos c4] at H
          have c4b0 : decide (0 ≤ x8_1) = true := decide_eq_true c4
          clear c4
          by_cases c5 : x8_1 < (l0.length : Int)
          · rw [if_pos c5] at H
            have c5b0 : decide (x8_1 < (l0.length : Int)) = true := decide_eq_true c5
            clear c5
            by_cases c6 : a1.toList = (rdOf ByteArray.empty l0 x8_1).toList
            · rw [if_pos c6] at H
              have c6b0 : (a1.toList == (rdOf ByteArray.empty l0 x8_1).toList) = true := beq_iff_eq.mpr c6
              have c6b1 : (a1.toList != (rdOf ByteArray.empty l0 x8_1).toList) = false := bne_eq_false_iff_eq.mpr c6
              clear c6
              obtain rfl := Option.some.inj H
              have p122 : 0 ≤ (x8_1 : Int) := of_decide_eq_true (by first | (with_reducible assumption) | assumption)
              have q122 : x8_1 < (l0.length : Int) := of_decide_eq_true (by first | (with_reducible assumption) | assumption)
              obtain ⟨ad122, e122, hx122_0⟩ := Kd.at_string HR0.out x8_1 p122 q122
              cases e122
              replace p122 := eq_true p122
              replace q122 := eq_true q122
              go_wp2
              go_ret
              exact ⟨by first | rfl | (simp; done) | (simp [*]; done), by repeat (first | exact Drawn0.refl _ | apply Drawn0.step)⟩
            · rw [if_neg c6] at H
              have c6b0 : (a1.toList == (rdOf ByteArray.empty l0 x8_1).toList) = false := beq_eq_false_iff_ne.mpr c6
              have c6b1 : (a1.toList != (rdOf ByteArray.empty l0 x8_1).toList) = true := bne_iff_ne.mpr c6
              have H' := Aside0.mk H
              clear H
              have p122 : 0 ≤ (x8_1 : Int) := of_decide_eq_true (by first | (with_reducible assumption) | assumption)
              have q122 : x8_1 < (l0.length : Int) := of_decide_eq_true (by first | (with_reducible assumption) | assumption)
              obtain ⟨ad122, e122, hx122_0⟩ := Kd.at_string HR0.out x8_1 p122 q122
              cases e122
              replace p122 := eq_true p122
              replace q122 := eq_true q122
              go_wp2
              go_roundg k1
              case measure => have := HK1.out; omega
              case rel => exact ⟨(wrap64 (x8_1 + 1)), (by first | rfl | (simp; done) | (simp [*]; done)), H', ⟨by have := HK1.out; omega⟩, by repeat (first | exact Drawn0.refl _ | apply Drawn0.step)⟩
          · rw [if_neg c5] at H
            exact absurd H (by simp)
        · rw [if_neg c4] at H
          exact absurd H (by simp)
      · rw [if_neg c3] at H
        have c3b0 : decide (x8_1 < (l0.length : Int)) = false := decide_eq_false c3
        clear c3
        obtain rfl := Option.some.inj H
        go_wp2
        go_ret
        exact ⟨by first | rfl | (simp; done) | (simp [*]; done), by repeat (first | exact Drawn0.refl _ | apply Drawn0.step)⟩
end Go.Proofs.YtodhmbnfliajiaaGreatDoor.Q

/- Chains: a text of this claim's proof, as printed or written, without what the claim does not use. -/
namespace Go.Proofs.YtodhmbnfliajiaaGreatDoor.Q
open Go.RowKit Go.Proofs.YtodhmbnfliajiaaGreatDoorW.PrintWords Go.Proofs.YtodhmbnfliajiaaGreatDoorW.PrintLast
section
variable {α β : Type} {d : Kd α} {d' : Kd β} {e e' base base' : Nat} {ok ok' : Nat → Prop} {W w1 : World} {u v v1 : Value} {xs : List α} {ys : List β}
def Flat (d : Kd α) : Prop := ∀ {w : World} {base : Nat} {ok1 ok2 : Nat → Prop} {x : α} {cs : List Value}, d.M w base ok1 x cs → d.M w base ok2 x cs
theorem flat_string : Flat Kd.string := fun h => h
theorem flat_raw (n : Nat) : Flat (Kd.raw n) := fun h => h
theorem R_other (hd : Flat d) (h : d.R e W base ok u xs) (hg : W.grownBy w1 v.ownBlock) (ha : ∀ k, u.ownBlock = some k → some k ≠ v.ownBlock) : d.R e w1 base ok u xs := by
  have h2 : d.R e W base (fun k => ok k ∧ some k ≠ v.ownBlock) u xs := Kd.R_flat hd h (fun k hk hok => ⟨hok, ha k hk⟩)
  exact Kd.R_mono (Kd.R_grown h2 hg (fun k hk => hk.2)) (fun k hk => hk.1)
theorem R_types (hu : d.R e W base ok u xs) (hv : d'.R e' W base' ok' v ys) (hne : e ≠ e') : ∀ k, u.ownBlock = some k → some k ≠ v.ownBlock := by
  intro k hk
  obtain ⟨inner, ho⟩ := Kd.R_own hu
  obtain ⟨cells, hc⟩ := own_typed ho k hk
  exact Kd.R_ne hv hc (Ne.symm hne)
end
def Chain {α : Type} (d : Kd α) (e n0 : Nat) (l : List α) (x : α) (p q r s : Bool) (v0 v3 v5 v6 : Value) (w : World) : Prop :=
  (p = true → q = false → d.R e w n0 (fun _ => True) v0 []) ∧
  (q = true → s = false → d.R e w n0 (fun _ => True) v3 l) ∧
  (r = true → s = false → d.R e w n0 (fun k => (p = true → q = false → some k ≠ v0.ownBlock) ∧ (q = true → some k ≠ v3.ownBlock)) v5 [x]) ∧
  (s = true → d.R e w n0 (fun _ => True) v6 (l ++ [x]))
section
variable {α : Type} {d : Kd α} {e n0 : Nat} {l : List α} {x : α} {p q r s : Bool} {v0 v3 v5 v6 : Value} {w w1 : World}
theorem Chain.none (d : Kd α) (e n0 : Nat) (l : List α) (x : α) (v0 v3 v5 v6 : Value) (w : World) : Chain d e n0 l x false false false false v0 v3 v5 v6 w :=
  ⟨fun h => (by cases h), fun h => (by cases h), fun h => (by cases h), fun h => (by cases h)⟩
theorem Chain.below (h : Chain d e n0 l x p q r s v0 v3 v5 v6 w) (hb : Below w.heap.size w w1) : Chain d e n0 l x p q r s v0 v3 v5 v6 w1 :=
  ⟨fun h1 h2 => Kd.R_below (h.1 h1 h2) hb, fun h1 h2 => Kd.R_below (h.2.1 h1 h2) hb, fun h1 h2 => Kd.R_below (h.2.2.1 h1 h2) hb, fun h1 => Kd.R_below (h.2.2.2 h1) hb⟩
theorem Chain.other {β : Type} {d' : Kd β} {e' base' : Nat} {ok' : Nat → Prop} {v : Value} {ys : List β} (hd : Flat d) (h : Chain d e n0 l x p q r s v0 v3 v5 v6 w) (hv : d'.R e' w base' ok' v ys) (hne : e ≠ e') (hg : w.grownBy w1 v.ownBlock) : Chain d e n0 l x p q r s v0 v3 v5 v6 w1 :=
  ⟨fun h1 h2 => R_other hd (h.1 h1 h2) hg (R_types (h.1 h1 h2) hv hne), fun h1 h2 => R_other hd (h.2.1 h1 h2) hg (R_types (h.2.1 h1 h2) hv hne),
   fun h1 h2 => R_other hd (h.2.2.1 h1 h2) hg (R_types (h.2.2.1 h1 h2) hv hne), fun h1 => R_other hd (h.2.2.2 h1) hg (R_types (h.2.2.2 h1) hv hne)⟩
theorem Chain.start (hd : Flat d) (h : Chain d e n0 l x false false r s v0 v3 v5 v6 w) (hs : s = false) {u : Value} {ok : Nat → Prop} (hn : n0 ≤ w.heap.size) (hb : Below w.heap.size w w1) (ho : d.R e w1 w.heap.size ok u []) : Chain d e n0 l x true false r s u v3 v5 v6 w1 := by
  subst hs
  refine ⟨fun _ _ => Kd.R_mono (Kd.R_lower ho hn) (fun _ _ => trivial), fun h1 => (by cases h1), fun h1 h2 => ?_, fun h1 => (by cases h1)⟩
  have h5 := h.2.2.1 h1 h2
  exact Kd.R_flat hd (Kd.R_below h5 hb) (fun k hk _ => ⟨fun _ _ he => by have := Kd.R_lt h5 k hk; have := Kd.R_base ho k he.symm; omega, fun h3 => (by cases h3)⟩)
theorem Chain.lit (hd : Flat d) (h : Chain d e n0 l x p q false s v0 v3 v5 v6 w) (hs : s = false) {u : Value} {ok : Nat → Prop} (hn : n0 ≤ w.heap.size) (hb : Below w.heap.size w w1) (ho : d.R e w1 w.heap.size ok u [x]) : Chain d e n0 l x p q true s v0 v3 u v6 w1 := by
  subst hs
  refine ⟨fun h1 h2 => Kd.R_below (h.1 h1 h2) hb, fun h1 h2 => Kd.R_below (h.2.1 h1 h2) hb, fun _ _ => ?_, fun h1 => (by cases h1)⟩
  refine Kd.R_flat hd (Kd.R_lower ho hn) (fun k hk _ => ⟨fun h1 h2 he => ?_, fun h1 he => ?_⟩)
  · have := Kd.R_lt (h.1 h1 h2) k he.symm; have := Kd.R_base ho k hk; omega
  · have := Kd.R_lt (h.2.1 h1 rfl) k he.symm; have := Kd.R_base ho k hk; omega
theorem Chain.first (h : Chain d e n0 l x true false r s v0 v3 v5 v6 w) (hs : s = false) {u : Value} {ok : Nat → Prop} (hg : w.grownBy w1 v0.ownBlock) (hat : u.ownBlock = v0.ownBlock ∨ ∃ b, u.ownBlock = some b ∧ w.heap.size ≤ b) (ho : d.R e w1 n0 ok u ([] ++ l)) : Chain d e n0 l x true true r s v0 u v5 v6 w1 := by
  subst hs
  refine ⟨fun _ h2 => (by cases h2), fun _ _ => Kd.R_mono ho (fun _ _ => trivial), fun h1 h2 => ?_, fun h1 => (by cases h1)⟩
  have h5 := Kd.R_mono (ok' := fun k => True ∧ some k ≠ v0.ownBlock) (h.2.2.1 h1 h2) (fun k hk => ⟨trivial, hk.1 rfl rfl⟩)
  exact Kd.R_mono (Kd.R_after (ok := fun _ => True) h5 hg hat) (fun k hk => ⟨fun _ h3 => (by cases h3), fun _ => hk.2⟩)
theorem Chain.second (_h : Chain d e n0 l x true true true false v0 v3 v5 v6 w) {u : Value} {ok : Nat → Prop} (ho : d.R e w1 n0 ok u (l ++ [x])) : Chain d e n0 l x true true true true v0 v3 v5 u w1 :=
  ⟨fun _ h2 => (by cases h2), fun _ h2 => (by cases h2), fun _ h2 => (by cases h2), fun _ => Kd.R_mono ho (fun _ _ => trivial)⟩
end
end Go.Proofs.YtodhmbnfliajiaaGreatDoor.Q

