/- Calls, by a run of the machine over names. -/
import Derived.Test.YtifcganfcjildaaGreatDoorE47
namespace Go.Proofs.YtifcganfcjildaaGreatDoor.E
open Go Go.RowKit
set_option linter.unusedVariables false
set_option linter.unusedSimpArgs false
set_option linter.unnecessarySimpa false
noncomputable section

/-- Cells that nobody writes, under the names 0, 1, .. -/
def stillT : List (List AV) → Nat → Tr AO → Option (Tr AO)
  | [], _, T => some T
  | c :: l, i, T => match T.put i (some (.still c)) with
    | none => none
    | some T' => stillT l (i + 1) T'
theorem stillT_get : ∀ {l : List (List AV)} {i : Nat} {T t : Tr AO}, stillT l i T = some t → ∀ j, t.get j = if i ≤ j ∧ j < i + l.length then (l[j - i]?).map .still else T.get j
  | [], i, T, t, h, j => by
    obtain rfl := Option.some.inj h
    rw [if_neg (by simp)]
  | c :: l, i, T, t, h, j => by
    unfold stillT at h
    split at h
    · cases h
    · next T' hT =>
      rw [stillT_get h j, Tr.get_put hT]
      by_cases e : j = i
      · subst e
        rw [if_neg (by omega), if_pos rfl, if_pos (by simp)]
        simp
      · rw [if_neg e]
        by_cases c1 : i + 1 ≤ j ∧ j < i + 1 + l.length
        · rw [if_pos c1, if_pos (by simp; omega)]
          have : j - i = (j - (i + 1)) + 1 := by omega
          rw [this, List.getElem?_cons_succ]
        · rw [if_neg c1, if_neg (by simp; omega)]
def valOf (r : Option (Rs × HS)) : Option AV := match r with
  | some (.val v, _) => some v
  | _ => none
def resLike (res : AV) (o : Option AV) : Bool := match o with
  | some v => like (fun _ => none) res v
  | none => false
/-- Is what is said of a call what a run tells? -/
def pureB (X : Ctx) (n : Nat) (g : FuncId) (e : Ent) : Bool := match stillT e.cells 0 .nil with
  | none => false
  | some t => resLike e.res (valOf ((callF X (runA X n) g e.args).run ⟨t, e.cells.length, 0, 0⟩))
theorem pure_of_run {X : Ctx} (hX : ∀ n0 w0, XOk X n0 w0) (hmix : X.P.follows .mixedOrders = true) {n : Nat} {g : FuncId} {e : Ent} (h : pureB X n g e = true) : PureOk X.P g e := by
  unfold pureB at h
  cases hs : stillT e.cells 0 .nil with
  | none => rw [hs] at h; cases h
  | some t =>
    rw [hs] at h
    dsimp only at h
    cases hv : valOf ((callF X (runA X n) g e.args).run ⟨t, e.cells.length, 0, 0⟩) with
    | none => rw [hv] at h; cases h
    | some v =>
      rw [hv] at h
      have hlk : like (fun _ => none) e.res v = true := h
      cases hr : (callF X (runA X n) g e.args).run ⟨t, e.cells.length, 0, 0⟩ with
      | none => rw [hr] at hv; cases hv
      | some p =>
        obtain ⟨rs, s1⟩ := p
        rw [hr] at hv
        cases rs with
        | pan _ => cases hv
        | val u =>
          obtain rfl := Option.some.inj hv
          intro φ w L hL hdom hcells c k
          have hget : ∀ j, t.get j = if j < e.cells.length then (e.cells[j]?).map .still else none := fun j => by
            rw [stillT_get hs j]
            by_cases c1 : j < e.cells.length
            · rw [if_pos (by omega), if_pos c1]; rfl
            · rw [if_neg (by omega), if_neg c1]; rfl
          have hat : ∀ j, j < e.cells.length → ∃ cs p C ty, t.get j = some (.still cs) ∧ HasCells φ w j cs p C ty := fun j hj => by
            obtain ⟨p, C, ty, hc⟩ := hcells j e.cells[j] (List.getElem?_eq_getElem hj)
            exact ⟨_, p, C, ty, by rw [hget, if_pos hj, List.getElem?_eq_getElem hj]; rfl, hc⟩
          have hlt : ∀ {j : Nat} {p : Pl}, φ j = some p → p.b < w.heap.size := fun {j p} hp => by
            obtain ⟨cs, q, C, ty, _, hc⟩ := hat j (hdom j p hp)
            obtain rfl := Option.some.inj (hp.symm.trans hc.at_)
            exact (Array.getElem?_eq_some_iff.1 hc.blk).1
          have hnone : ∀ j, e.cells.length ≤ j → t.get j = none := fun j hj => by rw [hget, if_neg (by omega)]
          have hR : Rel w.heap.size w s1.next φ ⟨t, e.cells.length, 0, 0⟩ w := by
            refine ⟨Below.refl _ _, fun j a _ => hnone j a, fun j o ho _ => ?_, fun j k o o' p p' a b oa _ _ _ _ => ?_, fun j p hp => ⟨?_, hlt hp⟩, Nat.le_refl _⟩
            · have hj : j < e.cells.length := by
                rcases Nat.lt_or_ge j e.cells.length with h9 | h9
                · exact h9
                · have : t.get j = some o := ho
                  rw [hnone j h9] at this; cases this
              obtain ⟨cs, p, C, ty, h1, hc⟩ := hat j hj
              have : t.get j = some o := ho
              rw [h1] at this
              obtain rfl := Option.some.inj this
              exact ⟨p, _, hc.at_, hc.blk, .still hc.size hc.fits hc.cells hc.one, fun hh => (by cases hh), fun _ => hlt hc.at_⟩
            · have hj : j < e.cells.length := by
                rcases Nat.lt_or_ge j e.cells.length with h9 | h9
                · exact h9
                · have : t.get j = some o := a
                  rw [hnone j h9] at this; cases this
              obtain ⟨cs, p, C, ty, h1, hc⟩ := hat j hj
              have : t.get j = some o := a
              rw [h1] at this
              obtain rfl := Option.some.inj this
              cases oa
            · obtain ⟨cs, q, C, ty, h1, hc⟩ := hat j (hdom j p hp)
              show t.get j ≠ none
              rw [h1]; simp
          obtain ⟨ψ, w', k1, k2, V, k3, k4⟩ := callF_sound (hX _ _) (runA_sound (hX _ _) hmix n) hr hR (Nat.le_refl _) hL c k
          exact ⟨w', V, k2.below, like_sound (φ := ψ) hlk k3, k4⟩
/-- A call, by a run. -/
theorem calls_run {X : Ctx} {n0 : Nat} {w0 : World} {lm : Nat} {φ : Map} {s s' : HS} {w : World} (hX : XOk X n0 w0) (hmix : X.P.follows .mixedOrders = true) {n : Nat} {g : FuncId} {args : List AV} {L : Array Value} {v : AV} (hr : (callN X (runA X n) g args).run s = some (.val v, s')) (h : Rel n0 w0 lm φ s w) (hm : s'.next ≤ lm)
    (hl : VRs φ args L.toList) : Calls X.P g L w fun e w' => ∃ ψ V, e = .returned V ∧ VR ψ v V ∧ Ext s.next s'.next φ ψ ∧ Rel n0 w0 lm ψ s' w' := by
  unfold callN at hr
  split at hr
  · cases hr
  · next A hA =>
    obtain ⟨r1, s1, h1, h2⟩ := Fr.bind_run hr
    obtain ⟨hf, rfl⟩ := Fr.ret_run h2
    obtain ⟨e1, e2, e3, e4, e5⟩ := enterA_sound hA hl
    intro cs
    obtain ⟨ψ, w', m, k1, k2, k3, k4⟩ := runA_sound hX hmix n A s r1 _ h1 lm φ w _ cs cs h hm e1 (by rw [e2]; exact .no _ _) (by rw [e4]; intro hh; exact absurd rfl hh)
    cases r1 with
    | pan c u => cases hf
    | ret v' u =>
      obtain rfl := Rs.val.inj hf
      simp only [Lands, e4] at k4
      obtain ⟨fr, cs1, V, fn, rfl, hu, q1, q2, q3, q4, q5, q6, q7⟩ := k4
      rw [e2] at hu q4
      cases hu
      exact ⟨.returned V, w', fr, ⟨ψ, V, rfl, q7, k2, k3⟩, k1, q3.trans e5, q1, q2, q4, fn, q5, q6⟩
def truthB (r : Option (Rs × HS)) : Bool := match r with
  | some (.val (.bool true), _) => true
  | _ => false
/-- A call without arguments that answers true. -/
theorem calls_true {X : Ctx} (hX : ∀ n0 w0, XOk X n0 w0) (hmix : X.P.follows .mixedOrders = true) {n : Nat} {g : FuncId} (hr : truthB ((callN X (runA X n) g []).run ⟨.nil, 0, 0, 0⟩) = true) (w : World) :
    Calls X.P g #[] w fun e w' => e = .returned (.bool true) ∧ Below w.heap.size w w' := by
  cases hc : (callN X (runA X n) g []).run ⟨.nil, 0, 0, 0⟩ with
  | none => rw [hc] at hr; cases hr
  | some p =>
    obtain ⟨rs, s1⟩ := p
    rw [hc] at hr
    have hrs : rs = .val (.bool true) := by
      unfold truthB at hr
      split at hr
      · next e => exact (Prod.mk.inj (Option.some.inj e)).1
      · cases hr
    subst hrs
    have hR : Rel w.heap.size w s1.next (fun _ => none) ⟨.nil, 0, 0, 0⟩ w := ⟨Below.refl _ _, fun _ _ _ => rfl, fun j o ho _ => (by cases ho), fun j k o o' p p' a => (by cases a), fun j p hp => (by cases hp), Nat.le_refl _⟩
    refine (calls_run (hX _ _) hmix hc hR (Nat.le_refl _) (L := #[]) .nil).mono fun e w' ⟨ψ, V, h1, h2, h3, h4⟩ => ?_
    cases h2
    exact ⟨h1, h4.below⟩
end
end Go.Proofs.YtifcganfcjildaaGreatDoor.E
