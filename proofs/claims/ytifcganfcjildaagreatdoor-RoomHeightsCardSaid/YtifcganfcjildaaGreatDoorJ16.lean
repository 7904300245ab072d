/- Merged out of: E43, E44, E45. -/
import Derived.Test.YtifcganfcjildaaGreatDoorE42
/- One step of a frame. -/
namespace Go.Proofs.YtifcganfcjildaaGreatDoor.E
open Go Go.RowKit
set_option linter.unusedVariables false
set_option linter.unusedSimpArgs false
set_option linter.unnecessarySimpa false
noncomputable section

section
variable {X : Ctx} {n0 : Nat} {w0 : World} {rec : AF → Fr Fin} {lm : Nat} {φ : Map} {s s' : HS} {w : World}
theorem to_ok {A : AF} {fr : Frame} {cs0 cs : List Frame} (h : Rel n0 w0 lm φ s w) (hf : FrR φ A fr) (hups : Ups φ A.dfd A.up cs0 cs) (hmd : A.mode = .run) {k' : List AI} {K : List Item} (hs : step X.P (lone fr cs w) = .next (lone { fr with todo := K } cs w)) (hk : IRs φ k' K) :
    StepOk X.P n0 w0 lm φ s s w A (lone fr cs w) cs0 (.go ⟨A.fn, A.N, A.T, k', A.defers, .run, A.dfd, A.up, A.round⟩) := by
  refine ⟨φ, w, _, cs, .one hs, Ext.refl _ _ _, h, ⟨hf.fn, hf.tmps, fun _ => hk, hf.defers, ?_, hf.kind, hf.round⟩, hups, rfl, rfl, rfl⟩
  have := hf.mode
  rw [hmd] at this
  exact this
theorem FrR.runs {A : AF} {fr : Frame} (hf : FrR φ A fr) (hmd : A.mode = .run) : fr.mode = .run := by
  have hq := hf.mode
  rw [hmd] at hq
  generalize fr.mode = q at *
  cases hq; rfl
/-- After an operation of a region that draws no order. -/
theorem op_end {A : AF} {fr : Frame} {cs0 cs cs' : List Frame} {ops : Array Oper} {i : Nat} {rest : List Nat} {k : List AI} {K : List Item} {o : Oper} (hf : FrR φ A fr) (hmd : A.mode = .run) (ht : fr.todo = .inRegion ops (i :: rest) :: K) (hK : IRs φ k K) (ho : ops[i]? = some o)
    {ψ : Map} {w' : World} {V : Value} {v : AV} {T' : Temps} {up' : AMd} {defers' : List AD} {fr' : Frame} (he : Ext s.next s'.next φ ψ) (hR : Rel n0 w0 lm ψ s' w') (hv : VR ψ v V) (hp : putT A.N A.T o.dst v = some T') (hups : Ups ψ A.dfd up' cs0 cs') (hd : DRs ψ defers' fr'.defers)
    (hfr : fr' = { fr with defers := fr'.defers }) (hs : Steps X.P (lone fr cs w) (lone (fr'.finish V) cs' w')) :
    StepOk X.P n0 w0 lm φ s s' w A (lone fr cs w) cs0 (.go ⟨A.fn, A.N, T', .reg ops rest :: k, defers', .run, A.dfd, up', A.round⟩) := by
  have ht' : fr'.todo = .inRegion ops (i :: rest) :: K := by rw [hfr]; exact ht
  rw [finish_reg ht' ho] at hs
  have htm : fr'.tmps = fr.tmps := by rw [hfr]
  refine ⟨ψ, w', _, cs', hs, he, hR, ⟨?_, ?_, fun _ => .cons (.reg _ _) (hK.mono he.le), hd, ?_, ?_, ?_⟩, hups, rfl, rfl, rfl⟩
  · show fr'.fn = A.fn
    rw [hfr]; exact hf.fn
  · show FRel A.N ψ T' ⟨putV fr'.tmps o.dst V, []⟩
    rw [htm]; exact (hf.tmps.mono he.le).put hv hp
  · show MR ψ .run fr'.mode
    rw [hfr]
    show MR ψ .run fr.mode
    rw [hf.runs hmd]; exact .run
  · show fr'.kind = _
    rw [hfr]; exact hf.kind
  · have := (hf.mono he.le).round
    show (A.round = none ∧ fr'.roundOf = none) ∨ ∃ h p, A.round = some h ∧ ψ h = some p ∧ fr'.roundOf = some p.b
    rw [hfr]; exact this
theorem spOf_recover {o : Op} (h : spOf o = .recover) : ∃ args ats, o = .call { callee := .builtin .recover, args := args, argTypes := ats } := by
  unfold spOf at h
  split at h
  · cases h
  · next c =>
    obtain ⟨callee, args, ats⟩ := c
    dsimp only at h
    split at h
    · split at h
      · exact ⟨args, ats, rfl⟩
      · cases h
    · cases h
  · cases h
theorem spOf_defer {o : Op} {c : Call} (h : spOf o = .defer c) : o = .defer c := by
  unfold spOf at h
  split at h
  · obtain rfl := Sp.defer.inj h; rfl
  · next c =>
    obtain ⟨callee, args, ats⟩ := c
    dsimp only at h
    split at h
    · split at h <;> cases h
    · cases h
  · cases h
theorem ap_recover_none {P : Program} {fr : Frame} {cs : List Frame} {w w' : World} {q : Sem Next} (h : q.run P w = .ok .recover w') (hr : fr.roundOf = none) (ht : tryRecover fr cs = none) : (stepG.apply P true fr cs none q w).bare = .go { frame := fr.finish .nilIface, callers := cs, status := .running, dying := none } w' := by
  simp only [stepG.apply, if_true, Sem.runT_eq, h, GStep.bare_after, GStep.bare_go, hr, ht]
theorem ap_recover_some {P : Program} {fr : Frame} {cs cs' : List Frame} {w w' : World} {q : Sem Next} {V : Value} (h : q.run P w = .ok .recover w') (hr : fr.roundOf = none) (ht : tryRecover fr cs = some (V, cs')) : (stepG.apply P true fr cs none q w).bare = .go { frame := fr.finish V, callers := cs', status := .running, dying := none } w' := by
  simp only [stepG.apply, if_true, Sem.runT_eq, h, GStep.bare_after, GStep.bare_go, hr, ht]
/-- recover. -/
theorem recoverA_sound {dfd : Bool} {up up' : AMd} {v : AV} {cs0 cs : List Frame} (hr : recoverA dfd up = (v, up')) (hups : Ups φ dfd up cs0 cs) {fr : Frame} (hk : fr.kind = if dfd then .deferred else .normal) (hro : fr.roundOf = none) {P : Program} {q : Sem Next} (h : q.run P w = .ok .recover w) :
    ∃ V cs', VR φ v V ∧ Ups φ dfd up' cs0 cs' ∧ (stepG.apply P true fr cs none q w).bare = .go { frame := fr.finish V, callers := cs', status := .running, dying := none } w := by
  unfold recoverA at hr
  split at hr
  · next v0 older =>
    obtain ⟨rfl, rfl⟩ := Prod.mk.inj hr
    cases hups with
    | yes c k hm =>
      cases hm with
      | pan hc =>
        cases hc with
        | @cons _ V _ _ ks hv t =>
          refine ⟨V, { { c with mode := .panicking ({ v := V, recovered := false, goexit := false } :: ks) } with mode := .panicking ({ v := V, recovered := true } :: ks) } :: k, hv, .yes c k (.pan (.cons hv t)), ap_recover_some h hro ?_⟩
          simp [tryRecover, hk]
  · next hne =>
    obtain ⟨rfl, rfl⟩ := Prod.mk.inj hr
    refine ⟨.nilIface, cs, .nili, hups, ap_recover_none h hro ?_⟩
    cases dfd with
    | false => simp [tryRecover, hk]
    | true =>
      cases hups with
      | yes c k hm =>
        cases hm with
        | run => simp [tryRecover, hk]
        | ret => simp [tryRecover, hk]
        | pan hc =>
          cases hc with
          | nil => simp [tryRecover, hk]
          | @cons v0 V r _ ks hv t =>
            cases r with
            | true => simp [tryRecover, hk]
            | false => exact absurd rfl (hne v0 _ rfl)
end
end
end Go.Proofs.YtifcganfcjildaaGreatDoor.E

/- A frame's steps, its run. -/
namespace Go.Proofs.YtifcganfcjildaaGreatDoor.E
open Go Go.RowKit
set_option linter.unusedVariables false
set_option linter.unusedSimpArgs false
set_option linter.unnecessarySimpa false
noncomputable section

section
variable {X : Ctx} {n0 : Nat} {w0 : World} {rec : AF → Fr Fin} {lm : Nat} {φ : Map} {s s' : HS} {w : World}
theorem evO_fn {N : Nat} {T : Temps} {fr : Frame} (hf : FRel N φ T ⟨fr.tmps, []⟩) {x : Operand} {v : AV} (e : evO T x = some v) : VR φ v (fr.eval x) := by
  rw [frame_eval]; exact evO_sound hf e
/-- A step inside a region that draws no order. -/
theorem regop_sound (hX : XOk X n0 w0) (hu : UnitOk X n0 w0 rec) {fn N : Nat} {T : Temps} {ops : Array Oper} {l : List Nat} {k : List AI} {defers : List AD} {dfd : Bool} {up : AMd} {round : Option Nat} {r : St}
    (hr : (stepA X rec ⟨fn, N, T, .reg ops l :: k, defers, .run, dfd, up, round⟩).run s = some (r, s')) (h : Rel n0 w0 lm φ s w) (hm : s'.next ≤ lm) {fr : Frame} {cs0 cs : List Frame} (hf : FrR φ ⟨fn, N, T, .reg ops l :: k, defers, .run, dfd, up, round⟩ fr) (hups : Ups φ dfd up cs0 cs) :
    StepOk X.P n0 w0 lm φ s s' w ⟨fn, N, T, .reg ops l :: k, defers, .run, dfd, up, round⟩ (lone fr cs w) cs0 r := by
  obtain ⟨y, K, ht, hy, hK⟩ := (hf.todo rfl).inv
  cases hy
  have hmd := hf.runs rfl
  simp only [stepA, st_range, st_region, st_begR, st_endRF, st_put, st_defer, st_recover, st_plain, st_op, st_code, st_item] at hr
  cases l with
  | nil =>
    obtain ⟨rfl, rfl⟩ := Fr.ret_run hr
    exact to_ok (A := ⟨fn, N, T, .reg ops [] :: k, defers, .run, dfd, up, round⟩) h hf hups rfl (st_to hmd ht (.inr (.inr (.inr (.inr (.inr (.inr (.inr (.inr (.inr (.inr (.inl ⟨ops, rfl, rfl⟩)))))))))))) hK
  | cons i rest =>
    dsimp only at hr
    cases ho : ops[i]? with
    | none => rw [ho] at hr; cases hr
    | some o =>
      rw [ho] at hr
      dsimp only at hr
      cases hw : wantedA ops T o with
      | none => rw [hw] at hr; cases hr
      | some b =>
        rw [hw] at hr
        have hwc := wantedA_sound hf.tmps hw
        cases b with
        | false =>
          dsimp only at hr
          cases hp : putT N T o.dst .nop with
          | none => rw [hp] at hr; cases hr
          | some T' =>
            rw [hp] at hr
            obtain ⟨rfl, rfl⟩ := Fr.ret_run hr
            exact op_end hf rfl ht hK ho (Ext.refl _ _ _) h (.tup .nil) hp hups hf.defers rfl (.one (st_skip hmd ht ho hwc))
        | true =>
          dsimp only at hr
          cases hsp : spOf o.op with
          | defer c =>
            rw [hsp] at hr
            dsimp only at hr
            split at hr
            · next d T' hd hp =>
              obtain ⟨rfl, rfl⟩ := Fr.ret_run hr
              have hro : fr.roundOf = none := by
                rcases hf.round with ⟨_, e⟩ | ⟨_, _, e, _⟩
                · exact e
                · cases e
              have hop := spOf_defer hsp
              have hg := stG_op (P := X.P) (cs := cs) (w := w) hmd ht ho hwc (.inl hro)
              obtain ⟨callee, args, ats⟩ := c
              unfold deferA at hd
              dsimp only at hd
              split at hd
              · next f =>
                split at hd
                · next g first cap al hfe hal =>
                  obtain rfl := Option.some.inj hd
                  have hfv := evO_fn hf.tmps hfe
                  have hav := evOs_array hf.tmps hal
                  rw [← frame_eval] at hav
                  generalize hy : fr.eval f = y at *
                  cases hfv with
                  | @fn _ _ _ A Bc q1 q2 =>
                    have he : (execOp fr.eval o).run X.P w = .ok (.defer { target := .fn (.func g) Bc, args := A ++ args.map fr.eval }) w := by
                      obtain ⟨dst, op, ty, pos, after, guard⟩ := o
                      dsimp only at hop
                      subst hop
                      simp [execOp, resolve, hy, Deferred.ofValue]
                    have hst : step X.P (lone fr cs w) = .next (lone (Frame.finish { fr with defers := { target := .fn (.func g) Bc, args := A ++ args.map fr.eval } :: fr.defers } undef) cs w) := step_lone_go (by rw [hg]; exact ap_defer he)
                    exact op_end (fr' := { fr with defers := { target := .fn (.func g) Bc, args := A ++ args.map fr.eval } :: fr.defers }) hf rfl ht hK ho (Ext.refl _ _ _) h (.tup .nil) hp hups (.cons (.call (by simp only [Array.toList_append]; exact (q1.append hav).append q2)) hf.defers) rfl (.one hst)
                · cases hd
              · cases hd
            · cases hr
          | recover =>
            rw [hsp] at hr
            dsimp only at hr
            cases hrec : recoverA dfd up with
            | mk v up' =>
              rw [hrec] at hr
              cases round with
              | some _ => cases hr
              | none =>
                dsimp only at hr
                cases hp : putT N T o.dst v with
                | none => rw [hp] at hr; cases hr
                | some T' =>
                  rw [hp] at hr
                  obtain ⟨rfl, rfl⟩ := Fr.ret_run hr
                  have hro : fr.roundOf = none := by
                    rcases hf.round with ⟨_, e⟩ | ⟨_, _, e, _⟩
                    · exact e
                    · cases e
                  obtain ⟨args, ats, hop⟩ := spOf_recover hsp
                  have hg := stG_op (P := X.P) (cs := cs) (w := w) hmd ht ho hwc (.inl hro)
                  have he : (execOp fr.eval o).run X.P w = .ok .recover w := by
                    obtain ⟨dst, op, ty, pos, after, guard⟩ := o
                    dsimp only at hop
                    subst hop
                    simp [execOp, resolve, invoke, builtin]
                  obtain ⟨V, cs', e1, e2, e3⟩ := recoverA_sound hrec hups hf.kind hro (P := X.P) he
                  exact op_end hf rfl ht hK ho (Ext.refl _ _ _) h e1 hp e2 hf.defers rfl (.one (step_lone_go (by rw [hg]; exact e3)))
          | plain =>
            rw [hsp] at hr
            dsimp only at hr
            obtain ⟨rs, s1, h1, h2⟩ := Fr.bind_run hr
            cases rs with
            | val v =>
              dsimp only at h2
              cases hp : putT N T o.dst v with
              | none => rw [hp] at h2; cases h2
              | some T' =>
                rw [hp] at h2
                obtain ⟨rfl, rfl⟩ := Fr.ret_run h2
                obtain ⟨ψ, w', e1, e2, V, e3, e4⟩ := opA_sound hX hu h hf.tmps hmd ht ho hwc h1 hm cs
                exact op_end hf rfl ht hK ho e1 e2 e3 hp (hups.mono e1.le) (hf.defers.mono e1.le) rfl e4
            | pan ch =>
              obtain ⟨rfl, rfl⟩ := Fr.ret_run h2
              obtain ⟨ψ, w', e1, e2, kk, e3, e4⟩ := opA_sound hX hu h hf.tmps hmd ht ho hwc h1 hm cs
              have hra : fr.raise kk = { fr with mode := .panicking kk } := by unfold Frame.raise; rw [hmd]
              rw [hra] at e4
              exact ⟨ψ, w', _, cs, e4, e1, e2, ⟨hf.fn, hf.tmps.mono e1.le, fun e => (by cases e), hf.defers.mono e1.le, .pan e3, hf.kind, (hf.mono e1.le).round⟩, hups.mono e1.le, rfl, rfl, rfl⟩
end
end
end Go.Proofs.YtifcganfcjildaaGreatDoor.E

/- A frame's run, whole: a call, and what the machine over names says of it. -/
namespace Go.Proofs.YtifcganfcjildaaGreatDoor.E
open Go Go.RowKit
set_option linter.unusedVariables false
set_option linter.unusedSimpArgs false
set_option linter.unnecessarySimpa false
noncomputable section

section
variable {X : Ctx} {n0 : Nat} {w0 : World} {rec : AF → Fr Fin} {lm : Nat} {φ : Map} {s s' : HS} {w : World}
theorem dfr_new (h : Rel n0 w0 lm φ s w) {n : Nat} (hr : (Fr.new (.dfr true)).run s = some (n, s')) (hm : s'.next ≤ lm) :
    Ext s.next s'.next φ (φ.add s.next ⟨w.heap.size, 0, 0⟩) ∧ Rel n0 w0 lm (φ.add s.next ⟨w.heap.size, 0, 0⟩) s' (w.alloc (.deferred (some []))) ∧ (φ.add s.next ⟨w.heap.size, 0, 0⟩) n = some ⟨w.heap.size, 0, 0⟩ := by
  obtain ⟨rfl, hn, he, hR⟩ := h.new hr hm (.deferred (some [])) 0 0 rfl .dfr1
  exact ⟨he, hR, by simp [Map.add]⟩
/-- A loop over a function begins. -/
theorem enter_loop (h : Rel n0 w0 lm φ s w) {fn N : Nat} {T : Temps} {ps : Array Tmp} {assign body : Code} {defers : List AD} {round : Option Nat} {fr : Frame} (hT : FRel N φ T ⟨fr.tmps, []⟩) (hd : DRs φ defers fr.defers) (hfn : fr.fn = fn)
    {dh : Nat} {defers' : List AD} {s1 : HS} (h1 : ((match round with
              | some h => (Fr.get h).bind fun o => match o with
                | .loop _ _ _ _ _ _ _ _ dh => .ret (dh, defers)
                | _ => .fail
              | none => (Fr.new (.dfr true)).bind fun d => .ret (d, .coll d :: defers)) : Fr (Nat × List AD)).run s = some ((dh, defers'), s1))
    (hro : (round = none ∧ fr.roundOf = none) ∨ ∃ h p, round = some h ∧ φ h = some p ∧ fr.roundOf = some p.b) {j : Nat} (h2 : (Fr.new (.loop .ready none fn N T ps assign body dh)).run s1 = some (j, s')) (hm : s'.next ≤ lm) :
    ∃ ψ w' l mark, (Instr.enterLoop fr.fn fr.tmps ps assign body fr.roundOf).run X.P w = .ok (l, mark) w' ∧ Ext s.next s'.next φ ψ ∧ Rel n0 w0 lm ψ s' w' ∧ DRs ψ defers' (mark ++ fr.defers) ∧ ∃ p, ψ j = some p ∧ p.b = l := by
  have hle2 := ((Fr.new (.loop .ready none fn N T ps assign body dh)).ok _ _ _ h2).le
  cases round with
  | none =>
    have hrn : fr.roundOf = none := by
      rcases hro with ⟨_, e⟩ | ⟨_, _, e, _⟩
      · exact e
      · cases e
    dsimp only at h1
    obtain ⟨d, s2, k1, k2⟩ := Fr.bind_run h1
    obtain ⟨e, rfl⟩ := Fr.ret_run k2
    simp only [Prod.mk.injEq] at e
    obtain ⟨rfl, rfl⟩ := e
    obtain ⟨a1, a2, a3⟩ := dfr_new h k1 (by omega)
    obtain ⟨rfl, hn, b1, b2⟩ := a2.new h2 hm (.loop { state := .ready, pending := none, fn := fr.fn, tmps := fr.tmps, params := ps, assign, body, defers := w.heap.size }) 0 0 rfl (by
      rw [hfn]
      refine OR.loop (q := ⟨w.heap.size, 0, 0⟩) hT.size (fun t v e => ⟨(hT.at_ t v e).1, ((hT.at_ t v e).2.mono a1.le).mono (a2.ext_add (by rw [← (Fr.new_run h2).2.1]; exact hm) _).le⟩) ?_
      exact (a2.ext_add (by rw [← (Fr.new_run h2).2.1]; exact hm) _).le _ _ a3)
    rw [hrn]
    have hsz : (w.alloc (.deferred (some []))).heap.size = w.heap.size + 1 := World.size_alloc ..
    refine ⟨_, _, _, _, run_enterLoop_outer fr.fn fr.tmps ps assign body, a1.trans (Nat.le_of_lt_succ (by rw [(Fr.new_run k1).2.1]; omega)) hle2 b1, b2, .cons (.coll (b1.le _ _ a3)) ((hd.mono a1.le).mono b1.le), ⟨(w.alloc (.deferred (some []))).heap.size, 0, 0⟩, by simp [Map.add], hsz⟩
  | some rh =>
    rcases hro with ⟨e, _⟩ | ⟨rh', p, e, hp, hrn⟩
    · cases e
    obtain rfl := Option.some.inj e
    dsimp only at h1
    obtain ⟨o, s2, k1, k2⟩ := Fr.bind_run h1
    obtain ⟨g1, g2, g3⟩ := Fr.get_run k1
    cases o with
    | loop st pend fn' N' T' ps' assign' body' dh' =>
      obtain ⟨e, rfl⟩ := Fr.ret_run k2
      simp only [Prod.mk.injEq] at e
      obtain ⟨rfl, rfl⟩ := e
      obtain ⟨p', b, q1, q2, q3, q4, q5⟩ := h.objs _ _ g1 rfl
      obtain rfl := Option.some.inj (q1.symm.trans hp)
      cases q3 with
      | @loop _ _ _ _ _ _ tmps _ _ _ _ q hs ht hq =>
        have hR := h.heap g2 g3
        obtain ⟨rfl, hn, b1, b2⟩ := hR.new h2 hm (.loop { state := .ready, pending := none, fn := fr.fn, tmps := fr.tmps, params := ps, assign, body, defers := q.b }) 0 0 rfl (by
          rw [hfn]
          refine OR.loop hT.size (fun t v e => ⟨(hT.at_ t v e).1, (hT.at_ t v e).2.mono (hR.ext_add (by rw [← (Fr.new_run h2).2.1]; exact hm) _).le⟩) ?_
          exact (hR.ext_add (by rw [← (Fr.new_run h2).2.1]; exact hm) _).le _ _ hq)
        rw [hrn]
        rw [g3] at b1 b2
        exact ⟨_, _, _, _, run_enterLoop_inner fr.fn fr.tmps ps assign body q2, b1, b2, by simpa using hd.mono b1.le, ⟨w.heap.size, 0, 0⟩, by simp [Map.add, g3], rfl⟩
    | _ => cases k2
end
end
end Go.Proofs.YtifcganfcjildaaGreatDoor.E

