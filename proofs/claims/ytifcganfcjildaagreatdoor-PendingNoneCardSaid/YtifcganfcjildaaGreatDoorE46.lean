/- A frame's run, whole. -/
import Derived.Test.YtifcganfcjildaaGreatDoorJ13
namespace Go.Proofs.YtifcganfcjildaaGreatDoor.E
open Go Go.RowKit
set_option linter.unusedVariables false
set_option linter.unusedSimpArgs false
set_option linter.unnecessarySimpa false
noncomputable section

section
variable {X : Ctx} {n0 : Nat} {w0 : World} {rec : AF → Fr Fin} {lm : Nat} {φ : Map} {s s' : HS} {w : World}
theorem evO_truth {N : Nat} {T : Temps} {fr : Frame} (hf : FRel N φ T ⟨fr.tmps, []⟩) {x : Operand} {b : Bool} (e : evO T x = some (.bool b)) : fr.eval x = .bool b := by
  have := evO_fn hf e
  generalize fr.eval x = y at *
  cases this; rfl
theorem code_sound (hX : XOk X n0 w0) (hmix : X.P.follows .mixedOrders = true) (hu : UnitOk X n0 w0 rec) {fn N : Nat} {T : Temps} {c : Code} {k : List AI} {defers : List AD} {dfd : Bool} {up : AMd} {round : Option Nat} {r : St}
    (hr : (stepA X rec ⟨fn, N, T, .code c :: k, defers, .run, dfd, up, round⟩).run s = some (r, s')) (h : Rel n0 w0 lm φ s w) (hm : s'.next ≤ lm) {fr : Frame} {cs0 cs : List Frame} (hf : FrR φ ⟨fn, N, T, .code c :: k, defers, .run, dfd, up, round⟩ fr) (hups : Ups φ dfd up cs0 cs)
    (hround : round ≠ none → cs0 ≠ [] ∧ dfd = false) :
    StepOk X.P n0 w0 lm φ s s' w ⟨fn, N, T, .code c :: k, defers, .run, dfd, up, round⟩ (lone fr cs w) cs0 r := by
  obtain ⟨y, K, ht, hy, hK⟩ := (hf.todo rfl).inv
  cases hy
  have hmd := hf.runs rfl
  simp only [stepA, st_range, st_region, st_begR, st_endRF, st_put, st_defer, st_recover, st_plain, st_op, st_code, st_item] at hr
  cases c with
  | ret => exact jumpA_sound hr h hf hups hround rfl (.inr (.inl ⟨rfl, ht⟩))
  | skip => obtain ⟨rfl, rfl⟩ := Fr.ret_run hr; exact to_ok h hf hups rfl (st_to hmd ht (by simp)) hK
  | label l => obtain ⟨rfl, rfl⟩ := Fr.ret_run hr; exact to_ok h hf hups rfl (st_to hmd ht (by simp)) hK
  | seq a b => obtain ⟨rfl, rfl⟩ := Fr.ret_run hr; exact to_ok h hf hups rfl (st_to hmd ht (by simp)) (.cons (.code _) (.cons (.code _) hK))
  | cond x a b =>
    dsimp only at hr
    split at hr
    · next e => obtain ⟨rfl, rfl⟩ := Fr.ret_run hr; exact to_ok h hf hups rfl (st_cond hmd ht (evO_truth hf.tmps e)) (.cons (.code _) hK)
    · next e => obtain ⟨rfl, rfl⟩ := Fr.ret_run hr; exact to_ok h hf hups rfl (st_cond hmd ht (evO_truth hf.tmps e)) (.cons (.code _) hK)
    · cases hr
  | block id b => obtain ⟨rfl, rfl⟩ := Fr.ret_run hr; exact to_ok h hf hups rfl (st_to hmd ht (.inr (.inr (.inr (.inr (.inr (.inl ⟨_, _, rfl, rfl⟩))))))) (.cons (.code _) (.cons (.blk _) hK))
  | loop b => obtain ⟨rfl, rfl⟩ := Fr.ret_run hr; exact to_ok h hf hups rfl (st_to hmd ht (by simp)) (.cons (.code _) (.cons (.lp _) hK))
  | scope b => obtain ⟨rfl, rfl⟩ := Fr.ret_run hr; exact to_ok h hf hups rfl (st_to hmd ht (by simp)) (.cons (.code _) (.cons (.sc _) hK))
  | exit id =>
    dsimp only at hr
    have hx := exit_rel (id := id) hK
    cases he : exitA id k with
    | some k' =>
      rw [he] at hr
      obtain ⟨rfl, rfl⟩ := Fr.ret_run hr
      obtain ⟨K', e1, e2⟩ := hx.1 k' he
      exact to_ok h hf hups rfl (st_to hmd ht (.inr (.inr (.inr (.inr (.inr (.inr (.inr (.inr (.inl ⟨id, rfl, e1⟩)))))))))) e2
    | none =>
      rw [he] at hr
      exact jumpA_sound hr h hf hups hround rfl (.inr (.inr (.inl ⟨id, rfl, ht, hx.2 he⟩)))
  | goto l =>
    dsimp only at hr
    have hx := goto_rel (lb := l) hK
    cases he : gotoA l k with
    | some k' =>
      rw [he] at hr
      obtain ⟨rfl, rfl⟩ := Fr.ret_run hr
      obtain ⟨K', e1, e2⟩ := hx.1 k' he
      exact to_ok h hf hups rfl (st_to hmd ht (.inr (.inr (.inr (.inr (.inr (.inr (.inr (.inr (.inr (.inl ⟨l, rfl, e1⟩))))))))))) e2
    | none =>
      rw [he] at hr
      exact jumpA_sound hr h hf hups hround rfl (.inr (.inr (.inr ⟨l, rfl, ht, hx.2 he⟩)))
  | rangeFunc f ps assign body =>
    dsimp only at hr
    split at hr
    · next g first cap hfe =>
      obtain ⟨⟨dh, defers'⟩, s1, h1, h2⟩ := Fr.bind_run hr
      dsimp only at h2
      obtain ⟨j, s2, h3, h4⟩ := Fr.bind_run h2
      obtain ⟨rs, s3, h5, h6⟩ := Fr.bind_run h4
      have hs3 : s3 = s' := by
        cases rs with
        | val v => obtain ⟨_, e⟩ := Fr.ret_run h6; exact e.symm
        | pan ch => obtain ⟨_, e⟩ := Fr.ret_run h6; exact e.symm
      subst hs3
      have hle := ((callN X rec g (first ++ [AV.yld j] ++ cap)).ok _ _ _ h5).le
      obtain ⟨ψ, w', l, mark, e1, e2, e3, e4, p, e5, rfl⟩ := enter_loop (X := X) (round := round) h hf.tmps hf.defers hf.fn h1 hf.round h3 (by omega)
      have hfv := evO_fn hf.tmps hfe
      generalize hy : fr.eval f = y at *
      cases hfv with
      | @fn _ _ _ A Bc q1 q2 =>
        have hbody : ∃ f c, X.P.funcs[g]? = some f ∧ f.body = some c := by
          unfold callN enterA at h5
          cases hf1 : X.P.funcs[g]? with
          | none => rw [hf1] at h5; cases h5
          | some f =>
            rw [hf1] at h5
            dsimp only at h5
            cases hf2 : f.body with
            | none => rw [hf2] at h5; cases h5
            | some c => exact ⟨f, c, rfl, hf2⟩
        obtain ⟨fg, cg, hf1, hf2⟩ := hbody
        have hst := st_rangeFunc (cs := cs) hmd ht e1 hy hf1 hf2 (hX.num g fg hf1)
        have hl : VRs ψ (first ++ [AV.yld j] ++ cap) (A ++ #[Value.func (.yield p.b) #[] #[]] ++ Bc).toList := by
          simp only [Array.toList_append]
          exact ((q1.mono e2.le).append (.cons (.yld e5) .nil)).append (q2.mono e2.le)
        obtain ⟨χ, w'', k1, k2, k3⟩ := callN_sound hu h5 e3 hm hl { fr with todo := .inRangeFunc p.b :: K, defers := mark ++ fr.defers } cs
        have hext := e2.trans (Nat.le_trans (Fr.ok _ _ _ _ h1).le (Fr.ok _ _ _ _ h3).le) hle k1
        cases rs with
        | val v =>
          obtain ⟨rfl, _⟩ := Fr.ret_run h6
          obtain ⟨V, _, k4⟩ := k3
          have hfin : Frame.finish { fr with todo := .inRangeFunc p.b :: K, defers := mark ++ fr.defers } V = { fr with todo := .endRangeFunc p.b :: K, defers := mark ++ fr.defers } := rfl
          rw [hfin] at k4
          exact ⟨χ, w'', _, cs, .head hst k4, hext, k2, ⟨hf.fn, hf.tmps.mono hext.le, fun _ => .cons (.endRF (k1.le _ _ e5)) (hK.mono hext.le), e4.mono k1.le, hf.mode.mono hext.le, hf.kind, (hf.mono hext.le).round⟩, hups.mono hext.le, rfl, rfl, rfl⟩
        | pan ch =>
          obtain ⟨rfl, _⟩ := Fr.ret_run h6
          obtain ⟨kk, k5, k4⟩ := k3
          have hra : Frame.raise { fr with todo := .inRangeFunc p.b :: K, defers := mark ++ fr.defers } kk = { fr with todo := .inRangeFunc p.b :: K, defers := mark ++ fr.defers, mode := .panicking kk } := by unfold Frame.raise; rw [hmd]
          rw [hra] at k4
          exact ⟨χ, w'', _, cs, .head hst k4, hext, k2, ⟨hf.fn, hf.tmps.mono hext.le, fun e => (by cases e), e4.mono k1.le, .pan k5, hf.kind, (hf.mono hext.le).round⟩, hups.mono hext.le, rfl, rfl, rfl⟩
    · cases hr
  | refuse why => cases hr
  | region id ops draw =>
    cases draw with
    | false => obtain ⟨rfl, rfl⟩ := Fr.ret_run hr; exact to_ok h hf hups rfl (st_to hmd ht (.inr (.inr (.inr (.inr (.inr (.inr (.inr (.inr (.inr (.inr (.inr ⟨_, _, rfl, rfl⟩)))))))))))) (.cons (.reg _ _) hK)
    | true =>
      dsimp only at hr
      obtain ⟨hord, h2⟩ := cond_run hr
      obtain ⟨rr, s1, h3, h4⟩ := Fr.bind_run h2
      have hs1 : s1 = s' := by
        cases rr with
        | ok T' => obtain ⟨_, e⟩ := Fr.ret_run h4; exact e.symm
        | pan T' ch => obtain ⟨_, e⟩ := Fr.ret_run h4; exact e.symm
      subst hs1
      obtain ⟨ψ, w', tm, e1, e2, e3⟩ := regA_sound hX hu hmix hf.tmps hord h3 h hm hmd ht cs
      cases rr with
      | ok T' =>
        obtain ⟨rfl, _⟩ := Fr.ret_run h4
        exact ⟨ψ, w', _, cs, e3.2, e1, e2, ⟨hf.fn, e3.1, fun _ => hK.mono e1.le, hf.defers.mono e1.le, hf.mode.mono e1.le, hf.kind, (hf.mono e1.le).round⟩, hups.mono e1.le, rfl, rfl, rfl⟩
      | pan T' ch =>
        obtain ⟨rfl, _⟩ := Fr.ret_run h4
        obtain ⟨e4, kk, td, e5, e6⟩ := e3
        have hra : (Frame.raise { fr with tmps := tm, todo := td } kk) = { fr with tmps := tm, todo := td, mode := .panicking kk } := by unfold Frame.raise; rw [hmd]
        rw [hra] at e6
        exact ⟨ψ, w', _, cs, e6, e1, e2, ⟨hf.fn, e4, fun e => (by cases e), hf.defers.mono e1.le, .pan e5, hf.kind, (hf.mono e1.le).round⟩, hups.mono e1.le, rfl, rfl, rfl⟩
theorem stepA_sound (hX : XOk X n0 w0) (hmix : X.P.follows .mixedOrders = true) (hu : UnitOk X n0 w0 rec) {A : AF} {r : St} (hr : (stepA X rec A).run s = some (r, s')) (h : Rel n0 w0 lm φ s w) (hm : s'.next ≤ lm) {fr : Frame} {cs0 cs : List Frame} (hf : FrR φ A fr) (hups : Ups φ A.dfd A.up cs0 cs)
    (hround : A.round ≠ none → cs0 ≠ [] ∧ A.dfd = false) : StepOk X.P n0 w0 lm φ s s' w A (lone fr cs w) cs0 r := by
  obtain ⟨fn, N, T, todo, defers, mode, dfd, up, round⟩ := A
  cases mode with
  | ret => exact leaveA_sound hX hu hr h hm hf hups (by simp)
  | pan ch => exact leaveA_sound hX hu hr h hm hf hups (by simp)
  | run =>
    have hmd := hf.runs rfl
    cases todo with
    | nil =>
      have ht : fr.todo = [] := by
        have := hf.todo rfl
        generalize fr.todo = q at *
        cases this; rfl
      exact jumpA_sound (k := []) hr h hf hups hround rfl (.inl ⟨rfl, ht⟩)
    | cons x k =>
      cases x with
      | code c => exact code_sound hX hmix hu hr h hm hf hups hround
      | reg ops l => exact regop_sound hX hu hr h hm hf hups
      | blk i =>
        obtain ⟨y, K, ht, hy, hK⟩ := (hf.todo rfl).inv
        cases hy
        obtain ⟨rfl, rfl⟩ := Fr.ret_run hr
        exact to_ok h hf hups rfl (st_to hmd ht (by simp)) hK
      | sc i =>
        obtain ⟨y, K, ht, hy, hK⟩ := (hf.todo rfl).inv
        cases hy
        obtain ⟨rfl, rfl⟩ := Fr.ret_run hr
        exact to_ok h hf hups rfl (st_to hmd ht (by simp)) hK
      | lp b =>
        obtain ⟨y, K, ht, hy, hK⟩ := (hf.todo rfl).inv
        cases hy
        obtain ⟨rfl, rfl⟩ := Fr.ret_run hr
        exact to_ok h hf hups rfl (st_to hmd ht (by simp)) (.cons (.code _) (.cons (.lp _) hK))
      | inRF j => cases hr
      | begR =>
        obtain ⟨y, K, ht, hy, hK⟩ := (hf.todo rfl).inv
        cases hy
        cases round with
        | none => cases hr
        | some j =>
          simp only [stepA, st_range, st_region, st_begR, st_endRF, st_put, st_defer, st_recover, st_plain, st_op, st_code, st_item] at hr
          obtain ⟨o, s1, h1, h2⟩ := Fr.bind_run hr
          obtain ⟨g1, g2, g3⟩ := Fr.get_run h1
          split at h2
          · next pend fn' N' T' ps assign body dh =>
            obtain ⟨u, s2, h3, h4⟩ := Fr.bind_run h2
            obtain ⟨rfl, rfl⟩ := Fr.ret_run h4
            rcases hf.round with ⟨e, _⟩ | ⟨j', p, e, hp, hro⟩
            · cases e
            obtain rfl := Option.some.inj e
            obtain ⟨p', b, q1, q2, q3, q4, q5⟩ := h.objs _ _ g1 rfl
            obtain rfl := Option.some.inj (q1.symm.trans hp)
            cases q3 with
            | @loop _ _ _ _ _ _ tmps _ _ _ _ q hs ht' hq =>
              obtain ⟨a1, a2⟩ := (h.heap g2 g3).set h3 (by rw [g2]; exact g1) rfl rfl hp _ (.loop (st := .busy) (pend := pend) (fn := fn') (params := ps) (assign := assign) (body := body) hs ht' hq)
              exact ⟨φ, _, _, cs, .one (st_begin hmd hro ht q2 rfl), by rw [a1, g3]; exact Ext.refl _ _ _, a2, ⟨hf.fn, hf.tmps, fun _ => hK, hf.defers, hf.mode, hf.kind, hf.round⟩, hups, rfl, rfl, rfl⟩
          · cases h2
      | endRF j =>
        obtain ⟨y, K, ht, hy, hK⟩ := (hf.todo rfl).inv
        cases hy with
        | @endRF _ p hp =>
          simp only [stepA, st_range, st_region, st_begR, st_endRF, st_put, st_defer, st_recover, st_plain, st_op, st_code, st_item] at hr
          obtain ⟨o, s1, h1, h2⟩ := Fr.bind_run hr
          obtain ⟨g1, g2, g3⟩ := Fr.get_run h1
          split at h2
          · cases h2
          · next st pend fn' N' T' ps assign body dh hnb =>
            obtain ⟨u, s2, h3, h4⟩ := Fr.bind_run h2
            obtain ⟨p', b, q1, q2, q3, q4, q5⟩ := h.objs _ _ g1 rfl
            obtain rfl := Option.some.inj (q1.symm.trans hp)
            cases q3 with
            | @loop _ _ _ _ _ _ tmps _ _ _ _ q hs ht' hq =>
              obtain ⟨a1, a2⟩ := (h.heap g2 g3).set h3 (by rw [g2]; exact g1) rfl rfl hp _ (.loop (st := .exhausted) (pend := pend) (fn := fn') (params := ps) (assign := assign) (body := body) hs ht' hq)
              have hst := st_endLoop (P := X.P) (cs := cs) hmd ht q2 (fun e => hnb e)
              cases pend with
              | none =>
                obtain ⟨rfl, rfl⟩ := Fr.ret_run h4
                exact ⟨φ, _, _, cs, .one hst, by rw [a1, g3]; exact Ext.refl _ _ _, a2, ⟨hf.fn, hf.tmps, fun _ => hK, hf.defers, hf.mode, hf.kind, hf.round⟩, hups, rfl, rfl, rfl⟩
              | some cd =>
                obtain ⟨rfl, rfl⟩ := Fr.ret_run h4
                exact ⟨φ, _, _, cs, .one hst, by rw [a1, g3]; exact Ext.refl _ _ _, a2, ⟨hf.fn, hf.tmps, fun _ => .cons (.code _) hK, hf.defers, hf.mode, hf.kind, hf.round⟩, hups, rfl, rfl, rfl⟩
          · cases h2
end
theorem lands_eq {P : Program} {ψ : Map} {A B : AF} {cs0 : List Frame} {m : Machine} {w : World} {r : Fin} (h : Lands P ψ B cs0 m w r) (h1 : B.dfd = A.dfd) (h2 : B.round = A.round) (h3 : B.fn = A.fn) : Lands P ψ A cs0 m w r := by
  obtain ⟨_, _, _, _, _, _, _, _, _⟩ := A
  obtain ⟨_, _, _, _, _, _, _, _, _⟩ := B
  dsimp only at h1 h2 h3
  subst h1 h2 h3
  exact h
/-- The machine over names runs as the model does. -/
theorem runA_sound {X : Ctx} {n0 : Nat} {w0 : World} (hX : XOk X n0 w0) (hmix : X.P.follows .mixedOrders = true) : ∀ n, UnitOk X n0 w0 (runA X n) := by
  intro n
  induction n with
  | zero => intro A s r s' hr; cases hr
  | succ n ih =>
    intro A s r s' hr0 lm φ w fr cs0 cs h hm hf hups hround
    have hr : ((stepA X (runA X n) A).bind fun r => match r with
      | .go B => runA X n B
      | .fin r => .ret r).run s = some (r, s') := hr0
    obtain ⟨st, s1, h1, h2⟩ := Fr.bind_run hr
    cases st with
    | fin q =>
      obtain ⟨rfl, rfl⟩ := Fr.ret_run h2
      exact stepA_sound hX hmix ih h1 h hm hf hups hround
    | go B =>
      have hle := ((runA X n B).ok _ _ _ h2).le
      have hle1 := (Fr.ok _ _ _ _ h1).le
      obtain ⟨ψ, w', fr', cs', e1, e2, e3, e4, e5, e6, e7, e8⟩ := stepA_sound hX hmix ih h1 h (by omega) hf hups hround
      obtain ⟨χ, w'', m, k1, k2, k3, k4⟩ := ih B s1 r s' h2 lm ψ w' fr' cs0 cs' e3 hm e4 e5 (by rw [e7, e6]; exact hround)
      exact ⟨χ, w'', m, e1.trans k1, e2.trans hle1 hle k2, k3, lands_eq k4 e6 e7 e8⟩
end
end Go.Proofs.YtifcganfcjildaaGreatDoor.E
