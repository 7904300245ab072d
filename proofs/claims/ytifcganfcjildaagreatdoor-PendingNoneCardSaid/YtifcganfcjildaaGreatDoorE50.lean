/- A function's rest, by a run: what comes ahead is walked, what follows is run by the machine over names. -/
import Derived.Test.YtifcganfcjildaaGreatDoorJ14
namespace Go.Proofs.YtifcganfcjildaaGreatDoor.E
open Go Go.RowKit
set_option linter.unusedVariables false
set_option linter.unusedSimpArgs false
set_option linter.unnecessarySimpa false
noncomputable section

/-- A world in which cells lie that nobody writes. -/
theorem rel_still {cells : List (List AV)} {t : Tr AO} {φ : Map} {w : World} (hs : stillT cells 0 .nil = some t) (hdom : ∀ i p, φ i = some p → i < cells.length)
    (hcells : ∀ i cs, cells[i]? = some cs → ∃ p C ty, HasCells φ w i cs p C ty) (lm : Nat) : Rel w.heap.size w lm φ ⟨t, cells.length, 0, 0⟩ w := by
  have hget : ∀ j, t.get j = if j < cells.length then (cells[j]?).map .still else none := fun j => by
    rw [stillT_get hs j]
    by_cases c1 : j < cells.length
    · rw [if_pos (by omega), if_pos c1]; rfl
    · rw [if_neg (by omega), if_neg c1]; rfl
  have hat : ∀ j, j < cells.length → ∃ cs p C ty, t.get j = some (.still cs) ∧ HasCells φ w j cs p C ty := fun j hj => by
    obtain ⟨p, C, ty, hc⟩ := hcells j cells[j] (List.getElem?_eq_getElem hj)
    exact ⟨_, p, C, ty, by rw [hget, if_pos hj, List.getElem?_eq_getElem hj]; rfl, hc⟩
  have hlt : ∀ {j : Nat} {p : Pl}, φ j = some p → p.b < w.heap.size := fun {j p} hp => by
    obtain ⟨cs, q, C, ty, _, hc⟩ := hat j (hdom j p hp)
    obtain rfl := Option.some.inj (hp.symm.trans hc.at_)
    exact (Array.getElem?_eq_some_iff.1 hc.blk).1
  have hnone : ∀ j, cells.length ≤ j → t.get j = none := fun j hj => by rw [hget, if_neg (by omega)]
  have hlen : ∀ j o, t.get j = some o → j < cells.length := fun j o ho => by
    rcases Nat.lt_or_ge j cells.length with h9 | h9
    · exact h9
    · rw [hnone j h9] at ho; cases ho
  refine ⟨Below.refl _ _, fun j a _ => hnone j a, fun j o ho _ => ?_, fun j k o o' p p' a b oa _ _ _ _ => ?_, fun j p hp => ⟨?_, hlt hp⟩, Nat.le_refl _⟩
  · obtain ⟨cs, p, C, ty, h1, hc⟩ := hat j (hlen j o ho)
    have : t.get j = some o := ho
    rw [h1] at this
    obtain rfl := Option.some.inj this
    exact ⟨p, _, hc.at_, hc.blk, .still hc.size hc.fits hc.cells hc.one, fun hh => (by cases hh), fun _ => hlt hc.at_⟩
  · obtain ⟨cs, q, C, ty, h1, hc⟩ := hat j (hlen j o a)
    have : t.get j = some o := a
    rw [h1] at this
    obtain rfl := Option.some.inj this
    cases oa
  · obtain ⟨cs, q, C, ty, h1, hc⟩ := hat j (hdom j p hp)
    show t.get j ≠ none
    rw [h1]; simp
/-- Temporaries of which something is known. -/
def tmpsT : List (Nat × AV) → Tr AV → Option (Tr AV)
  | [], T => some T
  | (i, v) :: l, T => match T.put i (some v) with
    | none => none
    | some T' => tmpsT l T'
theorem tmpsT_get : ∀ {l : List (Nat × AV)} {T T' : Tr AV}, tmpsT l T = some T' → ∀ j v, T'.get j = some v → (j, v) ∈ l ∨ T.get j = some v
  | [], T, T', h, j, v, e => by obtain rfl := Option.some.inj h; exact .inr e
  | (i, u) :: l, T, T', h, j, v, e => by
    unfold tmpsT at h
    split at h
    · cases h
    · next T1 h1 =>
      rcases tmpsT_get h j v e with h2 | h2
      · exact .inl (List.mem_cons_of_mem _ h2)
      · rw [Tr.get_put h1] at h2
        by_cases c : j = i
        · rw [if_pos c] at h2
          obtain rfl := Option.some.inj h2
          subst c
          exact .inl (List.mem_cons_self ..)
        · rw [if_neg c] at h2
          exact .inr h2
/-- A frame's base. -/
def baseF (f : FuncId) : Frame := { (default : Frame) with fn := f, kind := .normal }
/-- A function's rest leaves it so. -/
def Leaves (P : Program) (f : FuncId) (k : List Item) (a : Act) (w : World) (R : Ending → World → Prop) : Prop :=
  ∀ cs, ∃ e w' fr, R e w' ∧ Comes P (lone ((baseF f).at a k) cs w) (lone fr cs w') e ∧ fr.fn = f ∧ fr.leaving P w' e
section
variable {P : Program} {f : FuncId} {k : List Item} {a : Act} {w : World} {R : Ending → World → Prop}
theorem leaves_seq {x y : Code} (h : Leaves P f (.code x :: .code y :: k) a w R) : Leaves P f (.code (.seq x y) :: k) a w R := fun cs =>
  let ⟨e, w', fr, h1, h2, h3⟩ := h cs
  ⟨e, w', fr, h1, .of_steps (.one step_seq) h2, h3⟩
/-- What becomes of a walked part. -/
def partQ (P : Program) (f : FuncId) (fn : Func) (k : List Item) (R : Ending → World → Prop) : Exit → Act → World → Prop
  | .normal, a, w => Leaves P f k a w R
  | .ret, a, w => a.defers = [] ∧ ∃ v, (results fn a.tmps).run P w = .ok v w ∧ R (.returned v) w
  | .panic chain, a, w => a.defers = [] ∧ R (.panicked chain) w
  | _, _, _ => False
theorem leaves_code {fn : Func} {c : Code} (hf : P.funcs[f]? = some fn) (h : c.wp P (partQ P f fn k R) a w) : Leaves P f (.code c :: k) a w R := by
  intro cs
  obtain ⟨e, a', w', hq, harr⟩ := h (baseF f) k cs
  cases e with
  | normal =>
    obtain ⟨e, w2, fr, h1, h2, h3⟩ := hq cs
    exact ⟨e, w2, fr, h1, .of_steps harr h2, h3⟩
  | ret =>
    obtain ⟨hd, v, hr, hR⟩ := hq
    obtain ⟨todo, hs⟩ := harr
    exact ⟨.returned v, w', _, hR, hs, rfl, rfl, hd, rfl, fn, hf, hr⟩
  | panic chain =>
    obtain ⟨hd, hR⟩ := hq
    obtain ⟨todo, hs⟩ := harr
    exact ⟨.panicked chain, w', _, hR, hs, rfl, rfl, hd, fn, hf⟩
  | exit id => exact hq.elim
  | goto l => exact hq.elim
  | outgrown => exact hq.elim
theorem calls_of_leaves {fn : Func} {c : Code} {args : Array Value} (hf : P.funcs[f]? = some fn) (hb : fn.body = some c)
    (h : Leaves P f [.code c] { tmps := args ++ Array.replicate (fn.ntmps - args.size) undef, defers := [] } w R) : Calls P f args w R := by
  intro cs
  have henter : Frame.enter P f args .normal = (baseF f).at { tmps := args ++ Array.replicate (fn.ntmps - args.size) undef, defers := [] } [.code c] := by
    simp [Frame.enter, Frame.at, hf, hb, baseF]
  rw [henter]
  exact h cs
end
def finB : Option (Fin × HS) → Bool
  | some (.ret (.bool true) _, _) => true
  | _ => false
/-- Does the rest answer true? -/
def restB (X : Ctx) (n : Nat) (f : FuncId) (N : Nat) (l : List (Nat × AV)) (cells : List (List AV)) (k : List Code) : Bool := match stillT cells 0 .nil with
  | none => false
  | some t => match tmpsT l .nil with
    | none => false
    | some T => finB ((runA X n ⟨f, N, T, k.map .code, [], .run, false, .run, none⟩).run ⟨t, cells.length, 0, 0⟩)
theorem irs_code {φ : Map} : ∀ (k : List Code), IRs φ (k.map .code) (k.map .code)
  | [] => .nil
  | c :: k => .cons (.code c) (irs_code k)
theorem leaves_run {X : Ctx} (hX : ∀ n0 w0, XOk X n0 w0) (hmix : X.P.follows .mixedOrders = true) {n N : Nat} {f : FuncId} {l : List (Nat × AV)} {cells : List (List AV)} {k : List Code} (hr : restB X n f N l cells k = true)
    {w : World} {a : Act} {φ : Map} (hN : a.tmps.size = N) (hd : a.defers = []) (ht : ∀ p ∈ l, p.1 < N ∧ VR φ p.2 (a.tmps.getD p.1 undef)) (hdom : ∀ i p, φ i = some p → i < cells.length)
    (hcells : ∀ i cs, cells[i]? = some cs → ∃ p C ty, HasCells φ w i cs p C ty) :
    Leaves X.P f (k.map .code) a w fun e w' => e = .returned (.bool true) ∧ Below w.heap.size w w' := by
  unfold restB at hr
  cases hs : stillT cells 0 .nil with
  | none => rw [hs] at hr; cases hr
  | some t =>
    rw [hs] at hr
    cases hT : tmpsT l .nil with
    | none => rw [hT] at hr; cases hr
    | some T =>
      rw [hT] at hr
      dsimp only at hr
      cases hrun : (runA X n ⟨f, N, T, k.map .code, [], .run, false, .run, none⟩).run ⟨t, cells.length, 0, 0⟩ with
      | none => rw [hrun] at hr; cases hr
      | some q =>
        obtain ⟨r, s'⟩ := q
        rw [hrun] at hr
        unfold finB at hr
        split at hr
        · next u _ e =>
          obtain ⟨rfl, rfl⟩ := Prod.mk.inj (Option.some.inj e)
          intro cs
          have hR := rel_still hs hdom hcells s'.next
          have hF : FrR φ ⟨f, N, T, k.map .code, [], .run, false, .run, none⟩ ((baseF f).at a (k.map .code)) := by
            refine ⟨rfl, ⟨hN, fun j v e => ?_⟩, fun _ => irs_code k, ?_, .run, rfl, .inl ⟨rfl, rfl⟩⟩
            · rcases tmpsT_get hT j v e with h1 | h1
              · exact ht _ h1
              · cases h1
            · show DRs φ [] a.defers
              rw [hd]
              exact .nil
          obtain ⟨ψ, w', m, k1, k2, k3, k4⟩ := runA_sound (hX _ _) hmix n _ _ _ _ hrun _ φ w _ cs cs hR (Nat.le_refl _) hF (.no _ _) (fun hh => absurd rfl hh)
          simp only [Lands] at k4
          obtain ⟨fr, cs1, V, fn, rfl, hu, q1, q2, q3, q4, q5, q6, q7⟩ := k4
          cases hu
          cases q7
          exact ⟨.returned (.bool true), w', fr, ⟨rfl, k3.below⟩, k1, q3, q1, q2, q4, fn, q5, q6⟩
        · cases hr
theorem Leaves.mono {P : Program} {f : FuncId} {k : List Item} {a : Act} {w : World} {R S : Ending → World → Prop} (h : Leaves P f k a w R) (hr : ∀ e w', R e w' → S e w') : Leaves P f k a w S :=
  fun cs => let ⟨e, w', fr, r, rest⟩ := h cs; ⟨e, w', fr, hr _ _ r, rest⟩
/-- A call without arguments that answers true always. -/
theorem pureOk_true {P : Program} {g : FuncId} (h : ∀ w, Calls P g #[] w fun e w' => e = .returned (.bool true) ∧ Below w.heap.size w w') : PureOk P g ⟨[], [], .bool true⟩ := by
  intro φ w L hL _ _ c k
  obtain ⟨L⟩ := L
  cases hL
  obtain ⟨e, w', fr, ⟨rfl, hb⟩, hs, hf, hl⟩ := h w (c :: k)
  exact ⟨w', .bool true, hb, .bool true, hs.trans (.one (step_leave_returned hl))⟩
/-- Parts of a code. -/
noncomputable def sndC : Code → Code
  | .seq _ y => y
  | c => c
noncomputable def bodyC (f : Func) : Code := f.body.getD .skip
end
end Go.Proofs.YtifcganfcjildaaGreatDoor.E
