/- A frame that is left. -/
import Derived.Laws.Sem
import Derived.Test.YtifcganfcjildaaGreatDoorE34
namespace Go.Proofs.YtifcganfcjildaaGreatDoor.E
open Go Go.RowKit
set_option linter.unusedVariables false
set_option linter.unusedSimpArgs false
set_option linter.unnecessarySimpa false
noncomputable section

/-- What one step of a frame comes to. -/
def StepOk (P : Program) (n0 : Nat) (w0 : World) (lm : Nat) (φ : Map) (s s' : HS) (w : World) (A : AF) (m0 : Machine) (cs0 : List Frame) : St → Prop
  | .go B => ∃ ψ w' fr cs, Steps P m0 (lone fr cs w') ∧ Ext s.next s'.next φ ψ ∧ Rel n0 w0 lm ψ s' w' ∧ FrR ψ B fr ∧ Ups ψ B.dfd B.up cs0 cs ∧ B.dfd = A.dfd ∧ B.round = A.round ∧ B.fn = A.fn
  | .fin q => ∃ ψ w' m, Steps P m0 m ∧ Ext s.next s'.next φ ψ ∧ Rel n0 w0 lm ψ s' w' ∧ Lands P ψ A cs0 m w' q
section
variable {X : Ctx} {n0 : Nat} {w0 : World} {rec : AF → Fr Fin} {lm : Nat} {φ : Map} {s s' : HS} {w : World}
theorem mapM_res {P : Program} (tm : Array Value) (l : List ResultVar) (f : ResultVar → Sem Value) (x : ResultVar) (v : Value) (vs : List Value) (h1 : (f x).run P w = .ok v w) (h2 : (l.mapM f).run P w = .ok vs w) : ((x :: l).mapM f).run P w = .ok (v :: vs) w := by
  rw [List.mapM_cons]
  simp [h1, h2]
def resF (tm : Array Value) : ResultVar → Sem Value
  | .tmp t => pure (tm.getD t undef)
  | .cell a t => do loadVar t (← asAddr (tm.getD a undef))
theorem resA_sound {P : Program} {N : Nat} {T : Temps} {tm : Array Value} (hf : FRel N φ T ⟨tm, []⟩) : ∀ {l : List ResultVar} {s s' : HS} {vs : List AV}, (resA P T l).run s = some (vs, s') → Rel n0 w0 lm φ s w →
    Rel n0 w0 lm φ s' w ∧ s'.next = s.next ∧ ∃ L, (l.mapM (resF tm)).run P w = .ok L w ∧ VRs φ vs L
  | [], s, s', vs, h, hR => by
    obtain ⟨rfl, rfl⟩ := Fr.ret_run h
    exact ⟨hR, rfl, [], by rw [List.mapM_nil]; simp, .nil⟩
  | x :: l, s, s', vs, h, hR => by
    obtain ⟨v, s1, h1, h2⟩ := Fr.bind_run h
    obtain ⟨r, s2, h3, h4⟩ := Fr.bind_run h2
    obtain ⟨rfl, rfl⟩ := Fr.ret_run h4
    have key : Rel n0 w0 lm φ s1 w ∧ s1.next = s.next ∧ ∃ V, (resF tm x).run P w = .ok V w ∧ VR φ v V := by
      cases x with
      | tmp t =>
        obtain ⟨e, rfl⟩ := Fr.of_run h1
        exact ⟨hR, rfl, _, by simp [resF], (hf.at_ t v e).2⟩
      | cell a t =>
        dsimp only at h1
        split at h1
        · next p hp =>
          have hv := (hf.at_ a p hp).2
          unfold loadA at h1
          split at h1
          · obtain ⟨q1, q2, y, q3, q4⟩ := loadA_sound (P := P) (t := t) hR hv (by unfold loadA; exact h1)
            refine ⟨q1, q2, y, ?_, q4⟩
            dsimp only at hv
            simp only [resF]
            dsimp only at q3
            generalize tm.getD a undef = z at *
            cases hv
            simpa [Instr.loadAt, Instr.sureAddr, asAddr] using q3
          · cases h1
        · cases h1
    obtain ⟨k1, k2, V, k3, k4⟩ := key
    obtain ⟨q1, q2, L, q3, q4⟩ := resA_sound hf h3 k1
    exact ⟨q1, by omega, V :: L, mapM_res tm l _ x V L k3 q3, .cons k4 q4⟩
theorem results_run {P : Program} {fn : Func} {N : Nat} {T : Temps} {tm : Array Value} (hf : FRel N φ T ⟨tm, []⟩) {vs : List AV} (h : (resA P T fn.results.toList).run s = some (vs, s')) (hR : Rel n0 w0 lm φ s w) :
    Rel n0 w0 lm φ s' w ∧ s'.next = s.next ∧ ∃ V, (results fn tm).run P w = .ok V w ∧ VR φ (oneOf vs) V := by
  obtain ⟨q1, q2, L, q3, q4⟩ := resA_sound hf h hR
  refine ⟨q1, q2, ?_⟩
  have hr : results fn tm = (do let vs ← fn.results.mapM (resF tm); pure (if h : vs.size = 1 then vs[0] else .tuple vs)) := by
    unfold results
    congr 1
  have hm : (fn.results.mapM (resF tm)).run P w = .ok L.toArray w := by
    rw [Array.mapM_eq_mapM_toList]
    simp [q3]
  rw [hr]
  refine ⟨if h : L.toArray.size = 1 then L.toArray[0] else .tuple L.toArray, by simp [hm], ?_⟩
  cases q4 with
  | nil => exact .tup .nil
  | cons a t =>
    cases t with
    | nil => exact a
    | cons b t => exact .tup (.cons a (.cons b t))
theorem DRs.inv {φ : Map} {x : AD} {l : List AD} {k : List Deferred} (h : DRs φ (x :: l) k) : ∃ y ks, k = y :: ks ∧ DR φ x y ∧ DRs φ l ks := by
  cases h with | cons a t => exact ⟨_, _, rfl, a, t⟩
theorem unwind_collect {P : Program} {fr : Frame} {cs : List Frame} (hm : fr.mode ≠ .run) {r : Nat} {aT : Array Value} {ds : List Deferred} (hd : fr.defers = { target := .collected r, args := aT } :: ds) (hr : w.heap[r]? = some (.deferred (some []))) :
    step P (lone fr cs w) = .next (lone { fr with defers := ds } cs (w.putObj r (.deferred none))) := by
  refine step_lone_go ?_
  have ht := run_takeDeferred (P := P) hr
  cases hmode : fr.mode with
  | run => exact absurd hmode hm
  | returning => simp [stepG, unwind, hmode, hd, ht]
  | panicking chain => simp [stepG, unwind, hmode, hd, ht]
theorem MR.notrun {m : AMd} {u : FrameMode} (h : MR φ m u) (hm : m ≠ .run) : u ≠ .run := by
  cases h with
  | run => exact absurd rfl hm
  | ret => simp
  | pan _ => simp
theorem leaveA_sound (hX : XOk X n0 w0) (hu : UnitOk X n0 w0 rec) {A : AF} {r : St} (hr : (leaveA X rec A).run s = some (r, s')) (h : Rel n0 w0 lm φ s w) (hm : s'.next ≤ lm) {fr : Frame} {cs0 cs : List Frame} (hf : FrR φ A fr) (hups : Ups φ A.dfd A.up cs0 cs)
    (hmode : A.mode ≠ .run) : StepOk X.P n0 w0 lm φ s s' w A (lone fr cs w) cs0 r := by
  obtain ⟨fn, N, T, todo, defers, mode, dfd, up, round⟩ := A
  simp only [leaveA] at hr
  have hnr := hf.mode.notrun hmode
  split at hr
  · -- a block of deferred calls
    next j ds =>
    obtain ⟨y, ks, hd, hy, hds⟩ := hf.defers.inv
    obtain ⟨o, s1, h1, h2⟩ := Fr.bind_run hr
    obtain ⟨g1, g2, g3⟩ := Fr.get_run h1
    split at h2
    · obtain ⟨u, s2, h3, h4⟩ := Fr.bind_run h2
      obtain ⟨rfl, rfl⟩ := Fr.ret_run h4
      cases hy with
      | @coll _ p hp =>
        obtain ⟨p', b, q1, q2, q3, q4, q5⟩ := h.objs _ _ g1 rfl
        obtain rfl := Option.some.inj (q1.symm.trans hp)
        cases q3
        obtain ⟨a1, a2⟩ := (h.heap g2 g3).set h3 (by rw [g2]; exact g1) rfl rfl hp (.deferred none) .dfr0
        have hs := unwind_collect (P := X.P) (cs := cs) hnr hd q2
        exact ⟨φ, _, _, _, .one hs, by rw [a1, g3]; exact Ext.refl _ _ _, a2, ⟨hf.fn, hf.tmps, hf.todo, hds, hf.mode, hf.kind, hf.round⟩, hups, rfl, rfl, rfl⟩
    · cases h2
  · -- a deferred call
    next g args ds =>
    obtain ⟨y, ks, hd, hy, hds⟩ := hf.defers.inv
    split at hr
    · cases hr
    · next B hB =>
      obtain ⟨q, s1, h1, h2⟩ := Fr.bind_run hr
      cases hy with
      | @call _ _ cap L hl =>
        have hbody : ∃ f c, X.P.funcs[g]? = some f ∧ f.body = some c := by
          unfold enterA at hB
          cases hf1 : X.P.funcs[g]? with
          | none => rw [hf1] at hB; cases hB
          | some f =>
            rw [hf1] at hB
            dsimp only at hB
            cases hf2 : f.body with
            | none => rw [hf2] at hB; cases hB
            | some c => exact ⟨f, c, rfl, hf2⟩
        obtain ⟨f, c, hf1, hf2⟩ := hbody
        have hnn := hX.num g f hf1
        simp at hnn
        have hi : (invoke (.fn (.func g) cap) L).run X.P w = .ok (.enter g (L ++ cap)) w := by simp [invoke, callFunc, hf1, hf2, hnn]
        have hst := step_defer (P := X.P) (cs := cs) hnr hd rfl hi
        have hle : s1.next = s'.next := by
          cases q with
          | ret v u =>
            dsimp only at h2
            generalize settleA u = su at *
            cases su with
            | run => cases h2
            | ret => obtain ⟨_, rfl⟩ := Fr.ret_run h2; rfl
            | pan pc => obtain ⟨_, rfl⟩ := Fr.ret_run h2; rfl
          | pan c u => obtain ⟨_, rfl⟩ := Fr.ret_run h2; rfl
        obtain ⟨ψ, w', k1, k2, md, k3, k4⟩ := callD_sound hu hB h1 h (by omega) hl { fr with defers := ks } cs hf.mode
        cases q with
        | ret v u =>
          dsimp only at h2 k4
          generalize settleA u = su at *
          cases su with
          | run => cases h2
          | ret =>
            obtain ⟨rfl, rfl⟩ := Fr.ret_run h2
            exact ⟨ψ, w', _, _, .head hst k3, k1, k2, ⟨hf.fn, hf.tmps.mono k1.le, fun e => (by cases e), hds.mono k1.le, k4, hf.kind, (hf.mono k1.le).round⟩, hups.mono k1.le, rfl, rfl, rfl⟩
          | pan pc =>
            obtain ⟨rfl, rfl⟩ := Fr.ret_run h2
            exact ⟨ψ, w', _, _, .head hst k3, k1, k2, ⟨hf.fn, hf.tmps.mono k1.le, fun e => (by cases e), hds.mono k1.le, k4, hf.kind, (hf.mono k1.le).round⟩, hups.mono k1.le, rfl, rfl, rfl⟩
        | pan c u =>
          obtain ⟨rfl, rfl⟩ := Fr.ret_run h2
          exact ⟨ψ, w', _, _, .head hst k3, k1, k2, ⟨hf.fn, hf.tmps.mono k1.le, fun e => (by cases u <;> cases e), hds.mono k1.le, k4, hf.kind, (hf.mono k1.le).round⟩, hups.mono k1.le, rfl, rfl, rfl⟩
  · -- nothing more
    have hd0 : fr.defers = [] := by
      have hq := hf.defers
      dsimp only at hq
      generalize fr.defers = q at *
      cases hq
      rfl
    have hfm := hf.mode
    split at hr
    · cases hr
    · split at hr
      · cases hr
      · next c f hfn =>
        obtain ⟨rfl, rfl⟩ := Fr.ret_run hr
        dsimp only at hfm
        generalize hmd : fr.mode = md at *
        cases hfm with
        | pan hc => exact ⟨φ, w, _, .refl _ _, Ext.refl _ _ _, h, fr, cs, _, f, rfl, hups, hmd, hd0, hf.fn, hf.kind, by rw [hf.fn]; exact hfn, hc⟩
    · split at hr
      · cases hr
      · split at hr
        · cases hr
        · next f hfn =>
          obtain ⟨vs, s1, h1, h2⟩ := Fr.bind_run hr
          obtain ⟨rfl, rfl⟩ := Fr.ret_run h2
          obtain ⟨q1, q2, V, q3, q4⟩ := results_run hf.tmps h1 h
          dsimp only at hfm
          generalize hmd : fr.mode = md at *
          cases hfm with
          | ret =>
            refine ⟨φ, w, _, .refl _ _, by rw [q2]; exact Ext.refl _ _ _, q1, ?_⟩
            exact ⟨fr, cs, V, f, rfl, hups, hmd, hd0, hf.fn, hf.kind, by rw [hf.fn]; exact hfn, q3, q4⟩
end
end
end Go.Proofs.YtifcganfcjildaaGreatDoor.E
