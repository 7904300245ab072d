/- Merged out of: Tabs, PureMatch, PureTable, HandAfter, Qx15. -/
import Derived.Test.YtodhmbnfliajiaaGreatDoorWWords
import Derived.Test.YtodhmbnfliajiaaGreatDoorShelf
import Derived.Lib.LaidU8
import Derived.Test.YtodhmbnfliajiaaGreatDoorQx0
import Derived.Test.YtodhmbnfliajiaaGreatDoorJ7
import Derived.WalkKit
import Derived.WalkSpells
import Derived.Lib.Hide
import Derived.Test.YtodhmbnfliajiaaGreatDoorQx14
/- Tabs: a text of this claim's proof, as printed or written, without what the claim does not use. -/
namespace Go.Proofs.YtodhmbnfliajiaaGreatDoor.Q
open Go.RowKit Go.Shelf Go.Proofs.YtodhmbnfliajiaaGreatDoorW.PrintWords
def Tabs (w : World) : Prop := Lib.Utf8Tabs 1 2 w ∧ ∃ m : Int, w.cell? ⟨0, 0, none⟩ = some (.int .i64 m)
theorem Tabs.below {w W : World} (h : Tabs w) (hb : Below w.heap.size w W) : Tabs W := by
  obtain ⟨⟨h1, h2⟩, m, h3⟩ := h
  exact ⟨⟨fun c hc => pw_cell_below hb (h1 c hc), fun i hi => ⟨pw_cell_below hb (h2 i hi).1, pw_cell_below hb (h2 i hi).2⟩⟩, m, pw_cell_below hb h3⟩
end Go.Proofs.YtodhmbnfliajiaaGreatDoor.Q


/- PureMatch: a text of this claim's proof, as printed or written, without what the claim does not use. -/
namespace Go.Proofs.YtodhmbnfliajiaaGreatDoor.Q
section
variable {α β : Type} (star : α → Bool) (ok : α → β → Bool)
def mtB : List α → List β → Bool
  | [], s => s.isEmpty
  | p :: ps, s => if star p then (List.range (s.length + 1)).any (fun j => mtB ps (s.drop j)) else
      match s with
      | [] => false
      | x :: t => ok p x && mtB ps t
theorem mtB_star {p : α} (ps : List α) (s : List β) (h : star p = true) : mtB star ok (p :: ps) s = true ↔ ∃ j, j ≤ s.length ∧ mtB star ok ps (s.drop j) = true := by
  simp only [mtB, h, if_true, List.any_eq_true, List.mem_range]
  exact ⟨fun ⟨j, h1, h2⟩ => ⟨j, by omega, h2⟩, fun ⟨j, h1, h2⟩ => ⟨j, by omega, h2⟩⟩
theorem mtB_one {p : α} (ps : List α) (x : β) (t : List β) (h : star p = false) : mtB star ok (p :: ps) (x :: t) = (ok p x && mtB star ok ps t) := by
  simp [mtB, h]
theorem mtB_none {p : α} (ps : List α) (h : star p = false) : mtB star ok (p :: ps) [] = false := by
  simp [mtB, h]
theorem mtB_plain (g q : List α) (hg : ∀ a ∈ g, star a = false) : ∀ s : List β, mtB star ok (g ++ q) s = true → g.length ≤ s.length ∧ mtB star ok q (s.drop g.length) = true := by
  induction g with
  | nil => intro s h; exact ⟨Nat.zero_le _, by simpa using h⟩
  | cons a g ih =>
    intro s h
    have ha := hg a (List.mem_cons_self ..)
    cases s with
    | nil => rw [List.cons_append, mtB_none _ _ _ ha] at h; cases h
    | cons x t =>
      rw [List.cons_append, mtB_one _ _ _ _ _ ha, Bool.and_eq_true] at h
      have := ih (fun b hb => hg b (List.mem_cons_of_mem _ hb)) t h.2
      exact ⟨by simp; omega, by simpa using this.2⟩
end
end Go.Proofs.YtodhmbnfliajiaaGreatDoor.Q

/- PureTable: a text of this claim's proof, as printed or written, without what the claim does not use. -/
namespace Go.Proofs.YtodhmbnfliajiaaGreatDoor.Q
open Go.RowKit Go.Proofs.YtodhmbnfliajiaaGreatDoorW.PrintWords Go.Proofs.YtodhmbnfliajiaaGreatDoorW.PrintLast
end Go.Proofs.YtodhmbnfliajiaaGreatDoor.Q

/- HandAfter: a text of this claim's proof, as printed or written, without what the claim does not use. -/
namespace Go.Proofs.YtodhmbnfliajiaaGreatDoor.Q
open Go.RowKit Go.Proofs.YtodhmbnfliajiaaGreatDoorW.PrintWords Go.Proofs.YtodhmbnfliajiaaGreatDoorW.PrintLast
end Go.Proofs.YtodhmbnfliajiaaGreatDoor.Q

/- Qx15: a text of this claim's proof, as printed or written, without what the claim does not use. -/
namespace Go.Proofs.YtodhmbnfliajiaaGreatDoor.Q
open Go.RowKit Go.Proofs.YtodhmbnfliajiaaGreatDoorW.PrintWords Go.Proofs.YtodhmbnfliajiaaGreatDoorW.PrintLast Go.Proofs.YtodhmbnfliajiaaGreatDoorW.PrintMore
attribute [local go_sem] max2_int min2_int max_two min_two max_three min_three max_four min_four
set_option linter.unusedVariables false
set_option linter.unusedSimpArgs false
def ident_local_1.f (a0 : Int) : Option (Bool) := (ident_small.f a0).bind fun t278 => (if t278 = true then (some true) else (if a0 = 45 then (some true) else (some (a0 == 95))))
set_option maxHeartbeats 8000000 in
set_option maxRecDepth 100000 in
theorem ident_local_1.calls (a0 : Int) (r : Bool) (w : World) (h : ident_local_1.f a0 = some r) :
    Calls Tryz.prog 105 #[.int .u8 a0] w fun e w' => e = .returned (.bool r) ∧ Drawn0 w w' := by
  have H : ((ident_small.f a0).bind fun t278 => (if t278 = true then (some true) else (if a0 = 45 then (some true) else (some (a0 == 95))))) = some r := h
  clear h
  replace H := Option.bind_eq_some_iff.mp H
  obtain ⟨t278, A20, H⟩ := H
  replace H : (if t278 = true then (some true) else (if a0 = 45 then (some true) else (some (a0 == 95)))) = some r := H
  have A2 := Aside0.mk A20
  clear A20
  by_cases c3 : t278 = true
  · subst c3
    have H1 : (some true) = some r := by rw [if_pos rfl] at H; exact H
    clear H
    have H := H1
    clear H1
    obtain rfl := Option.some.inj H
    go_enter Tryz.func105, Tryz.ntmps105
    go_wp2_with (first | ((with_reducible refine gate_callee (f := 106) rfl ?_); refine goesL_ (some 4) rfl rfl Tryz.func106 (by kernel_rfl) rfl #[.int .u8 a0] rfl (by (try simp only [List.map_toArray, List.map_cons, List.map_nil]); first | done | rfl | (simp only [List.length_drop, List.length_take]; rfl)) ?_; (with_reducible refine (ident_small.calls a0 true _ A2.out).mono ?_); rintro e w' ⟨rfl, ⟨nd, rfl⟩⟩; refine ⟨_, rfl, ?_⟩))
    go_ret
    exact ⟨by first | rfl | (simp; done) | (simp [*]; done), by repeat (first | exact Drawn0.refl _ | apply Drawn0.step)⟩
  · replace c3 := Bool.eq_false_iff.mpr c3
    subst c3
    have H1 : (if a0 = 45 then (some true) else (some (a0 == 95))) = some r := by rw [if_neg (show ¬ (false = true) by decide)] at H; exact H
    clear H
    have H := H1
    clear H1
    by_cases c4 : a0 = 45
    · rw [if_pos c4] at H
      have c4b0 : (a0 == 45) = true := beq_iff_eq.mpr c4
      have c4b1 : (a0 != 45) = false := bne_eq_false_iff_eq.mpr c4
      clear c4
      obtain rfl := Option.some.inj H
      go_enter Tryz.func105, Tryz.ntmps105
      go_wp2_with (first | ((with_reducible refine gate_callee (f := 106) rfl ?_); refine goesL_ (some 4) rfl rfl Tryz.func106 (by kernel_rfl) rfl #[.int .u8 a0] rfl (by (try simp only [List.map_toArray, List.map_cons, List.map_nil]); first | done | rfl | (simp only [List.length_drop, List.length_take]; rfl)) ?_; (with_reducible refine (ident_small.calls a0 false _ A2.out).mono ?_); rintro e w' ⟨rfl, ⟨nd, rfl⟩⟩; refine ⟨_, rfl, ?_⟩))
      go_ret
      exact ⟨by first | rfl | (simp; done) | (simp [*]; done), by repeat (first | exact Drawn0.refl _ | apply Drawn0.step)⟩
    · rw [if_neg c4] at H
      have c4b0 : (a0 == 45) = false := beq_eq_false_iff_ne.mpr c4
      have c4b1 : (a0 != 45) = true := bne_iff_ne.mpr c4
      obtain rfl := Option.some.inj H
      go_enter Tryz.func105, Tryz.ntmps105
      go_wp2_with (first | ((with_reducible refine gate_callee (f := 106) rfl ?_); refine goesL_ (some 4) rfl rfl Tryz.func106 (by kernel_rfl) rfl #[.int .u8 a0] rfl (by (try simp only [List.map_toArray, List.map_cons, List.map_nil]); first | done | rfl | (simp only [List.length_drop, List.length_take]; rfl)) ?_; (with_reducible refine (ident_small.calls a0 false _ A2.out).mono ?_); rintro e w' ⟨rfl, ⟨nd, rfl⟩⟩; refine ⟨_, rfl, ?_⟩))
      go_ret
      exact ⟨by first | rfl | (simp; done) | (simp [*]; done), by repeat (first | exact Drawn0.refl _ | apply Drawn0.step)⟩
end Go.Proofs.YtodhmbnfliajiaaGreatDoor.Q

