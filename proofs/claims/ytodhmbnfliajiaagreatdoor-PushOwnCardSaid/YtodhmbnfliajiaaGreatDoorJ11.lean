/- Merged out of: Qx2, PureMatch, ShelfX, Qx15. -/
import Derived.Test.YtodhmbnfliajiaaGreatDoorQx0
import Derived.Shelf.SlSortCmp.Insertion
import Derived.Shelf.SlicesQ.IndexFunc
import Derived.Ground.SlsfProg
import Derived.Ground.SlgfProg
import Derived.Test.YtodhmbnfliajiaaGreatDoorProg
import Derived.Test.YtodhmbnfliajiaaGreatDoorQx14
/- Qx2: a text of this claim's proof, as printed or written, without what the claim does not use. -/
namespace Go.Proofs.YtodhmbnfliajiaaGreatDoor.Q
open Go.RowKit Go.Proofs.YtodhmbnfliajiaaGreatDoorW.PrintWords Go.Proofs.YtodhmbnfliajiaaGreatDoorW.PrintLast Go.Proofs.YtodhmbnfliajiaaGreatDoorW.PrintMore
attribute [local go_sem] max2_int min2_int max_two min_two max_three min_three max_four min_four
set_option linter.unusedVariables false
set_option linter.unusedSimpArgs false
theorem eqA80 (d : Nat) (w : World) (x0 y0 : Int) (x1 y1 : Bool) :
    (Op.equalIn (d + 2) 80 (.agg #[.int .i32 x0, .bool x1]) (.agg #[.int .i32 y0, .bool y1])).run Tryz.prog w = .ok (x0 == y0 && (x1 == y1)) w := by
  refine eqA_of Tryz.underlying80 (by kernel_rfl) ?_
  refine eqf_cons (by rfl) (by go_simp; rfl) (by go_simp; rfl) (by go_simp) ?_
  exact eqf_last (by rfl) (by go_simp; rfl) (by go_simp; rfl) (by go_simp)
end Go.Proofs.YtodhmbnfliajiaaGreatDoor.Q


/- PureMatch: a text of this claim's proof, as printed or written, without what the claim does not use. -/
namespace Go.Proofs.YtodhmbnfliajiaaGreatDoor.Q
section
variable {α β : Type} (star : α → Bool) (ok : α → β → Bool)
def mtB : List α → List β → Bool
  | [], s => s.isEmpty
  | p :: ps, s => if star p then (List.range (s.length + 1)).any (fun j => mtB ps (s.drop j)) else
      match s with
      | [] => false
      | x :: t => ok p x && mtB ps t
theorem mtB_star {p : α} (ps : List α) (s : List β) (h : star p = true) : mtB star ok (p :: ps) s = true ↔ ∃ j, j ≤ s.length ∧ mtB star ok ps (s.drop j) = true := by
  simp only [mtB, h, if_true, List.any_eq_true, List.mem_range]
  exact ⟨fun ⟨j, h1, h2⟩ => ⟨j, by omega, h2⟩, fun ⟨j, h1, h2⟩ => ⟨j, by omega, h2⟩⟩
theorem mtB_one {p : α} (ps : List α) (x : β) (t : List β) (h : star p = false) : mtB star ok (p :: ps) (x :: t) = (ok p x && mtB star ok ps t) := by
  simp [mtB, h]
theorem mtB_none {p : α} (ps : List α) (h : star p = false) : mtB star ok (p :: ps) [] = false := by
  simp [mtB, h]
theorem mtB_plain (g q : List α) (hg : ∀ a ∈ g, star a = false) : ∀ s : List β, mtB star ok (g ++ q) s = true → g.length ≤ s.length ∧ mtB star ok q (s.drop g.length) = true := by
  induction g with
  | nil => intro s h; exact ⟨Nat.zero_le _, by simpa using h⟩
  | cons a g ih =>
    intro s h
    have ha := hg a (List.mem_cons_self ..)
    cases s with
    | nil => rw [List.cons_append, mtB_none _ _ _ ha] at h; cases h
    | cons x t =>
      rw [List.cons_append, mtB_one _ _ _ _ _ ha, Bool.and_eq_true] at h
      have := ih (fun b hb => hg b (List.mem_cons_of_mem _ hb)) t h.2
      exact ⟨by simp; omega, by simpa using this.2⟩
end
end Go.Proofs.YtodhmbnfliajiaaGreatDoor.Q

/- ShelfX: a text of this claim's proof, as printed or written, without what the claim does not use. -/
namespace Go.Proofs
open Go.Shelf
def Tryz.insL_ren : Go.Shelf.Ren := ⟨fun | 20 => 85 | n => n, fun | 24 => 3 | 22 => 58 | 3 => 3 | 25 => 60 | 4 => 4 | 0 => 0 | n => n, fun | n => n⟩
theorem Tryz.insL : Go.Proofs.SlLaysF.n20 Tryz.prog Tryz.insL_ren := {
  mixed := by kernel_rfl
  f20 := ⟨Tryz.f85.name, by decide, Tryz.func85.trans (congrArg some (by kernel_rfl))⟩
  t0 := Tryz.underlying0
  a0 := Tryz.isAgg0
  z0 := Tryz.sizeOf0
  v0 := Tryz.zeroValue0
  t3 := Tryz.underlying3
  a3 := Tryz.isAgg3
  z3 := Tryz.sizeOf3
  v3 := Tryz.zeroValue3
  t4 := Tryz.underlying4
  a4 := Tryz.isAgg4
  z4 := Tryz.sizeOf4
  v4 := Tryz.zeroValue4
  t22 := Tryz.underlying58
  a22 := Tryz.isAgg58
  z22 := Tryz.sizeOf58
  v22 := Tryz.zeroValue58
  a24 := Tryz.isAgg3
  z24 := Tryz.sizeOf3
  t25 := Tryz.underlying60
  a25 := Tryz.isAgg60
  z25 := Tryz.sizeOf60
  v25 := Tryz.zeroValue60 }
end Go.Proofs

/- Qx15: a text of this claim's proof, as printed or written, without what the claim does not use. -/
namespace Go.Proofs.YtodhmbnfliajiaaGreatDoor.Q
open Go.RowKit Go.Proofs.YtodhmbnfliajiaaGreatDoorW.PrintWords Go.Proofs.YtodhmbnfliajiaaGreatDoorW.PrintLast Go.Proofs.YtodhmbnfliajiaaGreatDoorW.PrintMore
attribute [local go_sem] max2_int min2_int max_two min_two max_three min_three max_four min_four
set_option linter.unusedVariables false
set_option linter.unusedSimpArgs false
def ident_local_1.f (a0 : Int) : Option (Bool) := (ident_small.f a0).bind fun t278 => (if t278 = true then (some true) else (if a0 = 45 then (some true) else (some (a0 == 95))))
set_option maxHeartbeats 8000000 in
set_option maxRecDepth 100000 in
theorem ident_local_1.calls (a0 : Int) (r : Bool) (w : World) (h : ident_local_1.f a0 = some r) :
    Calls Tryz.prog 105 #[.int .u8 a0] w fun e w' => e = .returned (.bool r) ∧ Drawn0 w w' := by
  have H : ((ident_small.f a0).bind fun t278 => (if t278 = true then (some true) else (if a0 = 45 then (some true) else (some (a0 == 95))))) = some r := h
  clear h
  replace H := Option.bind_eq_some_iff.mp H
  obtain ⟨t278, A20, H⟩ := H
  replace H : (if t278 = true then (some true) else (if a0 = 45 then (some true) else (some (a0 == 95)))) = some r := H
  have A2 := Aside0.mk A20
  clear A20
  by_cases c3 : t278 = true
  · subst c3
    have H1 : (some true) = some r := by rw [if_pos rfl] at H; exact H
    clear H
    have H := H1
    clear H1
    obtain rfl := Option.some.inj H
    go_enter Tryz.func105, Tryz.ntmps105
    go_wp2_with (first | ((with_reducible refine gate_callee (f := 106) rfl ?_); refine goesL_ (some 4) rfl rfl Tryz.func106 (by kernel_rfl) rfl #[.int .u8 a0] rfl (by (try simp only [List.map_toArray, List.map_cons, List.map_nil]); first | done | rfl | (simp only [List.length_drop, List.length_take]; rfl)) ?_; (with_reducible refine (ident_small.calls a0 true _ A2.out).mono ?_); rintro e w' ⟨rfl, ⟨nd, rfl⟩⟩; refine ⟨_, rfl, ?_⟩))
    go_ret
    exact ⟨by first | rfl | (simp; done) | (simp [*]; done), by repeat (first | exact Drawn0.refl _ | apply Drawn0.step)⟩
  · replace c3 := Bool.eq_false_iff.mpr c3
    subst c3
    have H1 : (if a0 = 45 then (some true) else (some (a0 == 95))) = some r := by rw [if_neg (show ¬ (false = true) by decide)] at H; exact H
    clear H
    have H := H1
    clear H1
    by_cases c4 : a0 = 45
    · rw [if_pos c4] at H
      have c4b0 : (a0 == 45) = true := beq_iff_eq.mpr c4
      have c4b1 : (a0 != 45) = false := bne_eq_false_iff_eq.mpr c4
      clear c4
      obtain rfl := Option.some.inj H
      go_enter Tryz.func105, Tryz.ntmps105
      go_wp2_with (first | ((with_reducible refine gate_callee (f := 106) rfl ?_); refine goesL_ (some 4) rfl rfl Tryz.func106 (by kernel_rfl) rfl #[.int .u8 a0] rfl (by (try simp only [List.map_toArray, List.map_cons, List.map_nil]); first | done | rfl | (simp only [List.length_drop, List.length_take]; rfl)) ?_; (with_reducible refine (ident_small.calls a0 false _ A2.out).mono ?_); rintro e w' ⟨rfl, ⟨nd, rfl⟩⟩; refine ⟨_, rfl, ?_⟩))
      go_ret
      exact ⟨by first | rfl | (simp; done) | (simp [*]; done), by repeat (first | exact Drawn0.refl _ | apply Drawn0.step)⟩
    · rw [if_neg c4] at H
      have c4b0 : (a0 == 45) = false := beq_eq_false_iff_ne.mpr c4
      have c4b1 : (a0 != 45) = true := bne_iff_ne.mpr c4
      obtain rfl := Option.some.inj H
      go_enter Tryz.func105, Tryz.ntmps105
      go_wp2_with (first | ((with_reducible refine gate_callee (f := 106) rfl ?_); refine goesL_ (some 4) rfl rfl Tryz.func106 (by kernel_rfl) rfl #[.int .u8 a0] rfl (by (try simp only [List.map_toArray, List.map_cons, List.map_nil]); first | done | rfl | (simp only [List.length_drop, List.length_take]; rfl)) ?_; (with_reducible refine (ident_small.calls a0 false _ A2.out).mono ?_); rintro e w' ⟨rfl, ⟨nd, rfl⟩⟩; refine ⟨_, rfl, ?_⟩))
      go_ret
      exact ⟨by first | rfl | (simp; done) | (simp [*]; done), by repeat (first | exact Drawn0.refl _ | apply Drawn0.step)⟩
end Go.Proofs.YtodhmbnfliajiaaGreatDoor.Q

