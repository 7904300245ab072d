/- One step of a frame. -/
import Derived.Test.YtifcganfcjildaaGreatDoorE42
namespace Go.Proofs.YtifcganfcjildaaGreatDoor.E
open Go Go.RowKit
set_option linter.unusedVariables false
set_option linter.unusedSimpArgs false
set_option linter.unnecessarySimpa false
noncomputable section

section
variable {X : Ctx} {n0 : Nat} {w0 : World} {rec : AF → Fr Fin} {lm : Nat} {φ : Map} {s s' : HS} {w : World}
theorem to_ok {A : AF} {fr : Frame} {cs0 cs : List Frame} (h : Rel n0 w0 lm φ s w) (hf : FrR φ A fr) (hups : Ups φ A.dfd A.up cs0 cs) (hmd : A.mode = .run) {k' : List AI} {K : List Item} (hs : step X.P (lone fr cs w) = .next (lone { fr with todo := K } cs w)) (hk : IRs φ k' K) :
    StepOk X.P n0 w0 lm φ s s w A (lone fr cs w) cs0 (.go ⟨A.fn, A.N, A.T, k', A.defers, .run, A.dfd, A.up, A.round⟩) := by
  refine ⟨φ, w, _, cs, .one hs, Ext.refl _ _ _, h, ⟨hf.fn, hf.tmps, fun _ => hk, hf.defers, ?_, hf.kind, hf.round⟩, hups, rfl, rfl, rfl⟩
  have := hf.mode
  rw [hmd] at this
  exact this
theorem FrR.runs {A : AF} {fr : Frame} (hf : FrR φ A fr) (hmd : A.mode = .run) : fr.mode = .run := by
  have hq := hf.mode
  rw [hmd] at hq
  generalize fr.mode = q at *
  cases hq; rfl
/-- After an operation of a region that draws no order. -/
theorem op_end {A : AF} {fr : Frame} {cs0 cs cs' : List Frame} {ops : Array Oper} {i : Nat} {rest : List Nat} {k : List AI} {K : List Item} {o : Oper} (hf : FrR φ A fr) (hmd : A.mode = .run) (ht : fr.todo = .inRegion ops (i :: rest) :: K) (hK : IRs φ k K) (ho : ops[i]? = some o)
    {ψ : Map} {w' : World} {V : Value} {v : AV} {T' : Temps} {up' : AMd} {defers' : List AD} {fr' : Frame} (he : Ext s.next s'.next φ ψ) (hR : Rel n0 w0 lm ψ s' w') (hv : VR ψ v V) (hp : putT A.N A.T o.dst v = some T') (hups : Ups ψ A.dfd up' cs0 cs') (hd : DRs ψ defers' fr'.defers)
    (hfr : fr' = { fr with defers := fr'.defers }) (hs : Steps X.P (lone fr cs w) (lone (fr'.finish V) cs' w')) :
    StepOk X.P n0 w0 lm φ s s' w A (lone fr cs w) cs0 (.go ⟨A.fn, A.N, T', .reg ops rest :: k, defers', .run, A.dfd, up', A.round⟩) := by
  have ht' : fr'.todo = .inRegion ops (i :: rest) :: K := by rw [hfr]; exact ht
  rw [finish_reg ht' ho] at hs
  have htm : fr'.tmps = fr.tmps := by rw [hfr]
  refine ⟨ψ, w', _, cs', hs, he, hR, ⟨?_, ?_, fun _ => .cons (.reg _ _) (hK.mono he.le), hd, ?_, ?_, ?_⟩, hups, rfl, rfl, rfl⟩
  · show fr'.fn = A.fn
    rw [hfr]; exact hf.fn
  · show FRel A.N ψ T' ⟨putV fr'.tmps o.dst V, []⟩
    rw [htm]; exact (hf.tmps.mono he.le).put hv hp
  · show MR ψ .run fr'.mode
    rw [hfr]
    show MR ψ .run fr.mode
    rw [hf.runs hmd]; exact .run
  · show fr'.kind = _
    rw [hfr]; exact hf.kind
  · have := (hf.mono he.le).round
    show (A.round = none ∧ fr'.roundOf = none) ∨ ∃ h p, A.round = some h ∧ ψ h = some p ∧ fr'.roundOf = some p.b
    rw [hfr]; exact this
theorem spOf_recover {o : Op} (h : spOf o = .recover) : ∃ args ats, o = .call { callee := .builtin .recover, args := args, argTypes := ats } := by
  unfold spOf at h
  split at h
  · cases h
  · next c =>
    obtain ⟨callee, args, ats⟩ := c
    dsimp only at h
    split at h
    · split at h
      · exact ⟨args, ats, rfl⟩
      · cases h
    · cases h
  · cases h
theorem spOf_defer {o : Op} {c : Call} (h : spOf o = .defer c) : o = .defer c := by
  unfold spOf at h
  split at h
  · obtain rfl := Sp.defer.inj h; rfl
  · next c =>
    obtain ⟨callee, args, ats⟩ := c
    dsimp only at h
    split at h
    · split at h <;> cases h
    · cases h
  · cases h
theorem ap_recover_none {P : Program} {fr : Frame} {cs : List Frame} {w w' : World} {q : Sem Next} (h : q.run P w = .ok .recover w') (hr : fr.roundOf = none) (ht : tryRecover fr cs = none) : (stepG.apply P true fr cs none q w).bare = .go { frame := fr.finish .nilIface, callers := cs, status := .running, dying := none } w' := by
  simp only [stepG.apply, if_true, Sem.runT_eq, h, GStep.bare_after, GStep.bare_go, hr, ht]
theorem ap_recover_some {P : Program} {fr : Frame} {cs cs' : List Frame} {w w' : World} {q : Sem Next} {V : Value} (h : q.run P w = .ok .recover w') (hr : fr.roundOf = none) (ht : tryRecover fr cs = some (V, cs')) : (stepG.apply P true fr cs none q w).bare = .go { frame := fr.finish V, callers := cs', status := .running, dying := none } w' := by
  simp only [stepG.apply, if_true, Sem.runT_eq, h, GStep.bare_after, GStep.bare_go, hr, ht]
/-- recover. -/
theorem recoverA_sound {dfd : Bool} {up up' : AMd} {v : AV} {cs0 cs : List Frame} (hr : recoverA dfd up = (v, up')) (hups : Ups φ dfd up cs0 cs) {fr : Frame} (hk : fr.kind = if dfd then .deferred else .normal) (hro : fr.roundOf = none) {P : Program} {q : Sem Next} (h : q.run P w = .ok .recover w) :
    ∃ V cs', VR φ v V ∧ Ups φ dfd up' cs0 cs' ∧ (stepG.apply P true fr cs none q w).bare = .go { frame := fr.finish V, callers := cs', status := .running, dying := none } w := by
  unfold recoverA at hr
  split at hr
  · next v0 older =>
    obtain ⟨rfl, rfl⟩ := Prod.mk.inj hr
    cases hups with
    | yes c k hm =>
      cases hm with
      | pan hc =>
        cases hc with
        | @cons _ V _ _ ks hv t =>
          refine ⟨V, { { c with mode := .panicking ({ v := V, recovered := false, goexit := false } :: ks) } with mode := .panicking ({ v := V, recovered := true } :: ks) } :: k, hv, .yes c k (.pan (.cons hv t)), ap_recover_some h hro ?_⟩
          simp [tryRecover, hk]
  · next hne =>
    obtain ⟨rfl, rfl⟩ := Prod.mk.inj hr
    refine ⟨.nilIface, cs, .nili, hups, ap_recover_none h hro ?_⟩
    cases dfd with
    | false => simp [tryRecover, hk]
    | true =>
      cases hups with
      | yes c k hm =>
        cases hm with
        | run => simp [tryRecover, hk]
        | ret => simp [tryRecover, hk]
        | pan hc =>
          cases hc with
          | nil => simp [tryRecover, hk]
          | @cons v0 V r _ ks hv t =>
            cases r with
            | true => simp [tryRecover, hk]
            | false => exact absurd rfl (hne v0 _ rfl)
end
end
end Go.Proofs.YtifcganfcjildaaGreatDoor.E
