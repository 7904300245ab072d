/- Merged out of: E44, E45. -/
import Derived.Test.YtifcganfcjildaaGreatDoorJ2
/- A frame's steps, its run. -/
namespace Go.Proofs.YtifcganfcjildaaGreatDoor.E
open Go Go.RowKit
set_option linter.unusedVariables false
set_option linter.unusedSimpArgs false
set_option linter.unnecessarySimpa false
noncomputable section

section
variable {X : Ctx} {n0 : Nat} {w0 : World} {rec : AF → Fr Fin} {lm : Nat} {φ : Map} {s s' : HS} {w : World}
theorem evO_fn {N : Nat} {T : Temps} {fr : Frame} (hf : FRel N φ T ⟨fr.tmps, []⟩) {x : Operand} {v : AV} (e : evO T x = some v) : VR φ v (fr.eval x) := by
  rw [frame_eval]; exact evO_sound hf e
/-- A step inside a region that draws no order. -/
theorem regop_sound (hX : XOk X n0 w0) (hu : UnitOk X n0 w0 rec) {fn N : Nat} {T : Temps} {ops : Array Oper} {l : List Nat} {k : List AI} {defers : List AD} {dfd : Bool} {up : AMd} {round : Option Nat} {r : St}
    (hr : (stepA X rec ⟨fn, N, T, .reg ops l :: k, defers, .run, dfd, up, round⟩).run s = some (r, s')) (h : Rel n0 w0 lm φ s w) (hm : s'.next ≤ lm) {fr : Frame} {cs0 cs : List Frame} (hf : FrR φ ⟨fn, N, T, .reg ops l :: k, defers, .run, dfd, up, round⟩ fr) (hups : Ups φ dfd up cs0 cs) :
    StepOk X.P n0 w0 lm φ s s' w ⟨fn, N, T, .reg ops l :: k, defers, .run, dfd, up, round⟩ (lone fr cs w) cs0 r := by
  obtain ⟨y, K, ht, hy, hK⟩ := (hf.todo rfl).inv
  cases hy
  have hmd := hf.runs rfl
  simp only [stepA, st_range, st_region, st_begR, st_endRF, st_put, st_defer, st_recover, st_plain, st_op, st_code, st_item] at hr
  cases l with
  | nil =>
    obtain ⟨rfl, rfl⟩ := Fr.ret_run hr
    exact to_ok (A := ⟨fn, N, T, .reg ops [] :: k, defers, .run, dfd, up, round⟩) h hf hups rfl (st_to hmd ht (.inr (.inr (.inr (.inr (.inr (.inr (.inr (.inr (.inr (.inr (.inl ⟨ops, rfl, rfl⟩)))))))))))) hK
  | cons i rest =>
    dsimp only at hr
    cases ho : ops[i]? with
    | none => rw [ho] at hr; cases hr
    | some o =>
      rw [ho] at hr
      dsimp only at hr
      cases hw : wantedA ops T o with
      | none => rw [hw] at hr; cases hr
      | some b =>
        rw [hw] at hr
        have hwc := wantedA_sound hf.tmps hw
        cases b with
        | false =>
          dsimp only at hr
          cases hp : putT N T o.dst .nop with
          | none => rw [hp] at hr; cases hr
          | some T' =>
            rw [hp] at hr
            obtain ⟨rfl, rfl⟩ := Fr.ret_run hr
            exact op_end hf rfl ht hK ho (Ext.refl _ _ _) h (.tup .nil) hp hups hf.defers rfl (.one (st_skip hmd ht ho hwc))
        | true =>
          dsimp only at hr
          cases hsp : spOf o.op with
          | defer c =>
            rw [hsp] at hr
            dsimp only at hr
            split at hr
            · next d T' hd hp =>
              obtain ⟨rfl, rfl⟩ := Fr.ret_run hr
              have hro : fr.roundOf = none := by
                rcases hf.round with ⟨_, e⟩ | ⟨_, _, e, _⟩
                · exact e
                · cases e
              have hop := spOf_defer hsp
              have hg := stG_op (P := X.P) (cs := cs) (w := w) hmd ht ho hwc (.inl hro)
              obtain ⟨callee, args, ats⟩ := c
              unfold deferA at hd
              dsimp only at hd
              split at hd
              · next f =>
                split at hd
                · next g first cap al hfe hal =>
                  obtain rfl := Option.some.inj hd
                  have hfv := evO_fn hf.tmps hfe
                  have hav := evOs_array hf.tmps hal
                  rw [← frame_eval] at hav
                  generalize hy : fr.eval f = y at *
                  cases hfv with
                  | @fn _ _ _ A Bc q1 q2 =>
                    have he : (execOp fr.eval o).run X.P w = .ok (.defer { target := .fn (.func g) Bc, args := A ++ args.map fr.eval }) w := by
                      obtain ⟨dst, op, ty, pos, after, guard⟩ := o
                      dsimp only at hop
                      subst hop
                      simp [execOp, resolve, hy, Deferred.ofValue]
                    have hst : step X.P (lone fr cs w) = .next (lone (Frame.finish { fr with defers := { target := .fn (.func g) Bc, args := A ++ args.map fr.eval } :: fr.defers } undef) cs w) := step_lone_go (by rw [hg]; exact ap_defer he)
                    exact op_end (fr' := { fr with defers := { target := .fn (.func g) Bc, args := A ++ args.map fr.eval } :: fr.defers }) hf rfl ht hK ho (Ext.refl _ _ _) h (.tup .nil) hp hups (.cons (.call (by simp only [Array.toList_append]; exact (q1.append hav).append q2)) hf.defers) rfl (.one hst)
                · cases hd
              · cases hd
            · cases hr
          | recover =>
            rw [hsp] at hr
            dsimp only at hr
            cases hrec : recoverA dfd up with
            | mk v up' =>
              rw [hrec] at hr
              cases round with
              | some _ => cases hr
              | none =>
                dsimp only at hr
                cases hp : putT N T o.dst v with
                | none => rw [hp] at hr; cases hr
                | some T' =>
                  rw [hp] at hr
                  obtain ⟨rfl, rfl⟩ := Fr.ret_run hr
                  have hro : fr.roundOf = none := by
                    rcases hf.round with ⟨_, e⟩ | ⟨_, _, e, _⟩
                    · exact e
                    · cases e
                  obtain ⟨args, ats, hop⟩ := spOf_recover hsp
                  have hg := stG_op (P := X.P) (cs := cs) (w := w) hmd ht ho hwc (.inl hro)
                  have he : (execOp fr.eval o).run X.P w = .ok .recover w := by
                    obtain ⟨dst, op, ty, pos, after, guard⟩ := o
                    dsimp only at hop
                    subst hop
                    simp [execOp, resolve, invoke, builtin]
                  obtain ⟨V, cs', e1, e2, e3⟩ := recoverA_sound hrec hups hf.kind hro (P := X.P) he
                  exact op_end hf rfl ht hK ho (Ext.refl _ _ _) h e1 hp e2 hf.defers rfl (.one (step_lone_go (by rw [hg]; exact e3)))
          | plain =>
            rw [hsp] at hr
            dsimp only at hr
            obtain ⟨rs, s1, h1, h2⟩ := Fr.bind_run hr
            cases rs with
            | val v =>
              dsimp only at h2
              cases hp : putT N T o.dst v with
              | none => rw [hp] at h2; cases h2
              | some T' =>
                rw [hp] at h2
                obtain ⟨rfl, rfl⟩ := Fr.ret_run h2
                obtain ⟨ψ, w', e1, e2, V, e3, e4⟩ := opA_sound hX hu h hf.tmps hmd ht ho hwc h1 hm cs
                exact op_end hf rfl ht hK ho e1 e2 e3 hp (hups.mono e1.le) (hf.defers.mono e1.le) rfl e4
            | pan ch =>
              obtain ⟨rfl, rfl⟩ := Fr.ret_run h2
              obtain ⟨ψ, w', e1, e2, kk, e3, e4⟩ := opA_sound hX hu h hf.tmps hmd ht ho hwc h1 hm cs
              have hra : fr.raise kk = { fr with mode := .panicking kk } := by unfold Frame.raise; rw [hmd]
              rw [hra] at e4
              exact ⟨ψ, w', _, cs, e4, e1, e2, ⟨hf.fn, hf.tmps.mono e1.le, fun e => (by cases e), hf.defers.mono e1.le, .pan e3, hf.kind, (hf.mono e1.le).round⟩, hups.mono e1.le, rfl, rfl, rfl⟩
end
end
end Go.Proofs.YtifcganfcjildaaGreatDoor.E

/- A frame's run, whole: a call, and what the machine over names says of it. -/
namespace Go.Proofs.YtifcganfcjildaaGreatDoor.E
open Go Go.RowKit
set_option linter.unusedVariables false
set_option linter.unusedSimpArgs false
set_option linter.unnecessarySimpa false
noncomputable section

section
variable {X : Ctx} {n0 : Nat} {w0 : World} {rec : AF → Fr Fin} {lm : Nat} {φ : Map} {s s' : HS} {w : World}
theorem dfr_new (h : Rel n0 w0 lm φ s w) {n : Nat} (hr : (Fr.new (.dfr true)).run s = some (n, s')) (hm : s'.next ≤ lm) :
    Ext s.next s'.next φ (φ.add s.next ⟨w.heap.size, 0, 0⟩) ∧ Rel n0 w0 lm (φ.add s.next ⟨w.heap.size, 0, 0⟩) s' (w.alloc (.deferred (some []))) ∧ (φ.add s.next ⟨w.heap.size, 0, 0⟩) n = some ⟨w.heap.size, 0, 0⟩ := by
  obtain ⟨rfl, hn, he, hR⟩ := h.new hr hm (.deferred (some [])) 0 0 rfl .dfr1
  exact ⟨he, hR, by simp [Map.add]⟩
/-- A loop over a function begins. -/
theorem enter_loop (h : Rel n0 w0 lm φ s w) {fn N : Nat} {T : Temps} {ps : Array Tmp} {assign body : Code} {defers : List AD} {round : Option Nat} {fr : Frame} (hT : FRel N φ T ⟨fr.tmps, []⟩) (hd : DRs φ defers fr.defers) (hfn : fr.fn = fn)
    {dh : Nat} {defers' : List AD} {s1 : HS} (h1 : ((match round with
              | some h => (Fr.get h).bind fun o => match o with
                | .loop _ _ _ _ _ _ _ _ dh => .ret (dh, defers)
                | _ => .fail
              | none => (Fr.new (.dfr true)).bind fun d => .ret (d, .coll d :: defers)) : Fr (Nat × List AD)).run s = some ((dh, defers'), s1))
    (hro : (round = none ∧ fr.roundOf = none) ∨ ∃ h p, round = some h ∧ φ h = some p ∧ fr.roundOf = some p.b) {j : Nat} (h2 : (Fr.new (.loop .ready none fn N T ps assign body dh)).run s1 = some (j, s')) (hm : s'.next ≤ lm) :
    ∃ ψ w' l mark, (Instr.enterLoop fr.fn fr.tmps ps assign body fr.roundOf).run X.P w = .ok (l, mark) w' ∧ Ext s.next s'.next φ ψ ∧ Rel n0 w0 lm ψ s' w' ∧ DRs ψ defers' (mark ++ fr.defers) ∧ ∃ p, ψ j = some p ∧ p.b = l := by
  have hle2 := ((Fr.new (.loop .ready none fn N T ps assign body dh)).ok _ _ _ h2).le
  cases round with
  | none =>
    have hrn : fr.roundOf = none := by
      rcases hro with ⟨_, e⟩ | ⟨_, _, e, _⟩
      · exact e
      · cases e
    dsimp only at h1
    obtain ⟨d, s2, k1, k2⟩ := Fr.bind_run h1
    obtain ⟨e, rfl⟩ := Fr.ret_run k2
    simp only [Prod.mk.injEq] at e
    obtain ⟨rfl, rfl⟩ := e
    obtain ⟨a1, a2, a3⟩ := dfr_new h k1 (by omega)
    obtain ⟨rfl, hn, b1, b2⟩ := a2.new h2 hm (.loop { state := .ready, pending := none, fn := fr.fn, tmps := fr.tmps, params := ps, assign, body, defers := w.heap.size }) 0 0 rfl (by
      rw [hfn]
      refine OR.loop (q := ⟨w.heap.size, 0, 0⟩) hT.size (fun t v e => ⟨(hT.at_ t v e).1, ((hT.at_ t v e).2.mono a1.le).mono (a2.ext_add (by rw [← (Fr.new_run h2).2.1]; exact hm) _).le⟩) ?_
      exact (a2.ext_add (by rw [← (Fr.new_run h2).2.1]; exact hm) _).le _ _ a3)
    rw [hrn]
    have hsz : (w.alloc (.deferred (some []))).heap.size = w.heap.size + 1 := World.size_alloc ..
    refine ⟨_, _, _, _, run_enterLoop_outer fr.fn fr.tmps ps assign body, a1.trans (Nat.le_of_lt_succ (by rw [(Fr.new_run k1).2.1]; omega)) hle2 b1, b2, .cons (.coll (b1.le _ _ a3)) ((hd.mono a1.le).mono b1.le), ⟨(w.alloc (.deferred (some []))).heap.size, 0, 0⟩, by simp [Map.add], hsz⟩
  | some rh =>
    rcases hro with ⟨e, _⟩ | ⟨rh', p, e, hp, hrn⟩
    · cases e
    obtain rfl := Option.some.inj e
    dsimp only at h1
    obtain ⟨o, s2, k1, k2⟩ := Fr.bind_run h1
    obtain ⟨g1, g2, g3⟩ := Fr.get_run k1
    cases o with
    | loop st pend fn' N' T' ps' assign' body' dh' =>
      obtain ⟨e, rfl⟩ := Fr.ret_run k2
      simp only [Prod.mk.injEq] at e
      obtain ⟨rfl, rfl⟩ := e
      obtain ⟨p', b, q1, q2, q3, q4, q5⟩ := h.objs _ _ g1 rfl
      obtain rfl := Option.some.inj (q1.symm.trans hp)
      cases q3 with
      | @loop _ _ _ _ _ _ tmps _ _ _ _ q hs ht hq =>
        have hR := h.heap g2 g3
        obtain ⟨rfl, hn, b1, b2⟩ := hR.new h2 hm (.loop { state := .ready, pending := none, fn := fr.fn, tmps := fr.tmps, params := ps, assign, body, defers := q.b }) 0 0 rfl (by
          rw [hfn]
          refine OR.loop hT.size (fun t v e => ⟨(hT.at_ t v e).1, (hT.at_ t v e).2.mono (hR.ext_add (by rw [← (Fr.new_run h2).2.1]; exact hm) _).le⟩) ?_
          exact (hR.ext_add (by rw [← (Fr.new_run h2).2.1]; exact hm) _).le _ _ hq)
        rw [hrn]
        rw [g3] at b1 b2
        exact ⟨_, _, _, _, run_enterLoop_inner fr.fn fr.tmps ps assign body q2, b1, b2, by simpa using hd.mono b1.le, ⟨w.heap.size, 0, 0⟩, by simp [Map.add, g3], rfl⟩
    | _ => cases k2
end
end
end Go.Proofs.YtifcganfcjildaaGreatDoor.E

