/- Steps of a frame that runs: loops over functions, rounds, ways out. -/
import Derived.Test.YtifcganfcjildaaGreatDoorE35
namespace Go.Proofs.YtifcganfcjildaaGreatDoor.E
open Go Go.RowKit
set_option linter.unusedVariables false
set_option linter.unusedSimpArgs false
set_option linter.unnecessarySimpa false
noncomputable section

theorem IRs.inv {φ : Map} {x : AI} {l : List AI} {k : List Item} (h : IRs φ (x :: l) k) : ∃ y ks, k = y :: ks ∧ IR φ x y ∧ IRs φ l ks := by
  cases h with | cons a t => exact ⟨_, _, rfl, a, t⟩
theorem exit_rel {φ : Map} {id : Nat} : ∀ {l : List AI} {k : List Item}, IRs φ l k → (∀ l', exitA id l = some l' → ∃ k', exitTo id k = some k' ∧ IRs φ l' k') ∧ (exitA id l = none → exitTo id k = none)
  | _, _, .nil => ⟨fun _ h => (by cases h), fun _ => rfl⟩
  | _, _, .cons (l := l) (k := k) hx t => by
    have ih := exit_rel (id := id) t
    cases hx with
    | blk i =>
      simp only [exitA, exitTo]
      cases hb : Nat.beq i id with
      | true =>
        have : i = id := Nat.eq_of_beq_eq_true hb
        subst this
        exact ⟨fun l' h => ⟨k, by simp, by obtain rfl := Option.some.inj h; exact t⟩, fun h => by cases h⟩
      | false =>
        have : (i == id) = false := by rw [beq_eq_false_iff_ne]; exact Nat.ne_of_beq_eq_false hb
        simp only [this]
        exact ih
    | _ => exact ih
theorem goto_rel {φ : Map} {lb : Nat} : ∀ {l : List AI} {k : List Item}, IRs φ l k → (∀ l', gotoA lb l = some l' → ∃ k', gotoIn lb k = some k' ∧ IRs φ l' k') ∧ (gotoA lb l = none → gotoIn lb k = none)
  | _, _, .nil => ⟨fun _ h => (by cases h), fun _ => rfl⟩
  | _, _, .cons (l := l) (k := k) hx t => by
    have ih := goto_rel (lb := lb) t
    cases hx with
    | sc b =>
      simp only [gotoA, gotoIn]
      cases hb : findLabel b lb with
      | some r => exact ⟨fun l' h => ⟨_, rfl, by obtain rfl := Option.some.inj h; exact .cons (.code _) (.cons (.sc _) t)⟩, fun h => by cases h⟩
      | none => exact ih
    | _ => exact ih
theorem Ext.map {n m : Nat} {φ ψ : Map} (h : Ext n m φ ψ) : φ.le ψ := h.le
section
variable {P : Program} {fr : Frame} {cs : List Frame} {w w' : World} {k : List Item}
theorem st_endRound {l : Nat} {jump : Option Code} {v : Value} {c : Frame} (hm : fr.mode = .run) (hr : fr.roundOf = some l) (hk : fr.kind = .normal)
    (h : jump = none ∧ fr.todo = [] ∨ jump = some .ret ∧ fr.todo = .code .ret :: k ∨ (∃ id, jump = some (.exit id) ∧ fr.todo = .code (.exit id) :: k ∧ exitTo id k = none) ∨ (∃ id, jump = some (.goto id) ∧ fr.todo = .code (.goto id) :: k ∧ gotoIn id k = none))
    (he : (Instr.endRound l jump).run P w = .ok v w') : step P (lone fr (c :: cs) w) = .next (lone (c.finish v) cs w') := by
  refine step_lone_go ?_
  rcases h with ⟨rfl, h⟩ | ⟨rfl, h⟩ | ⟨id, rfl, h, h2⟩ | ⟨id, rfl, h, h2⟩ <;>
  · simp only [stepG, hm, stepG.exec, h, hr, Sem.runT_eq, he, GStep.bare_after, doReturn, hk]
    first | rfl | (simp only [h2, Option.elim, Sem.runT_eq, he, GStep.bare_after, doReturn, hk]; rfl)
theorem st_begin {l : Nat} {r : Loop} (hm : fr.mode = .run) (hr : fr.roundOf = some l) (ht : fr.todo = .beginRound :: k) (hg : w.heap[l]? = some (.loop r)) (hs : r.state = .ready) :
    step P (lone fr cs w) = .next (lone { fr with todo := k } cs (w.putObj l (.loop { r with state := .busy }))) := by
  refine step_lone_go ?_
  have h1 := run_beginRound (P := P) hg hs
  have h2 : (do fr.roundOf.elim (stuck "beginRound: no round") Instr.beginRound; pure Next.skip : Sem Next).run P w = .ok .skip (w.putObj l (.loop { r with state := .busy })) := by
    simp only [hr, Option.elim, Sem.run_bind, h1, Result.andThen, Sem.run_pure]
  have h3 := ap_skip (fr := fr) (cs := cs) h2
  have h4 : fr.finish undef = { fr with todo := k } := by simp [Frame.finish, ht]
  rw [h4] at h3
  rw [← h3]
  simp only [stepG, hm, stepG.exec, ht]
theorem st_endLoop {l : Nat} {r : Loop} (hm : fr.mode = .run) (ht : fr.todo = .endRangeFunc l :: k) (hg : w.heap[l]? = some (.loop r)) (hs : r.state ≠ .busy) :
    step P (lone fr cs w) = .next (lone { fr with todo := (r.pending.map Item.code).toList ++ k } cs (w.putObj l (.loop { r with state := .exhausted }))) := by
  refine step_lone_go ?_
  have h1 := run_endLoop (P := P) hg hs
  simp only [stepG, hm, stepG.exec, ht, Sem.runT_eq, h1, GStep.bare_after]
  rfl
theorem st_rangeFunc {f : Operand} {ps : Array Tmp} {assign body : Code} (hm : fr.mode = .run) (ht : fr.todo = .code (.rangeFunc f ps assign body) :: k) {l : Nat} {mark : List Deferred}
    (he : (Instr.enterLoop fr.fn fr.tmps ps assign body fr.roundOf).run P w = .ok (l, mark) w') {g : FuncId} {A B : Array Value} (hf : fr.eval f = .func (.func g) A B) {fn : Func} {c : Code} (hg : P.funcs[g]? = some fn) (hb : fn.body = some c) (hn : (fn.name == "runtime.NumGoroutine") = false) :
    step P (lone fr cs w) = .next (lone (Frame.enter P g (A ++ #[.func (.yield l) #[] #[]] ++ B) .normal) ({ fr with todo := .inRangeFunc l :: k, defers := mark ++ fr.defers } :: cs) w') := by
  refine step_lone_go ?_
  simp at hn
  have hev : ({ fr with todo := .inRangeFunc l :: k, defers := mark ++ fr.defers } : Frame).eval = fr.eval := by funext x; cases x <;> rfl
  have h2 : (do let d ← resolve ({ fr with todo := .inRangeFunc l :: k, defers := mark ++ fr.defers } : Frame).eval { callee := .value f, args := #[.const (.func (.yield l) #[] #[])], argTypes := #[] } 0; invoke d.target d.args : Sem Next).run P w' = .ok (.enter g (A ++ #[.func (.yield l) #[] #[]] ++ B)) w' := by
    rw [hev]
    have hc : fr.eval (.const (.func (.yield l) #[] #[])) = .func (.yield l) #[] #[] := rfl
    simp [resolve, hf, Deferred.ofValue, invoke, callFunc, hg, hb, hn, hc]
  have h3 := ap_enter (fr := { fr with todo := .inRangeFunc l :: k, defers := mark ++ fr.defers }) (cs := cs) (by intro d b r e k hh; cases hh) h2
  rw [← h3]
  simp only [stepG, hm, stepG.exec, ht, Sem.runT_eq, he, GStep.bare_after]
theorem run_enterLoop_inner (fn : FuncId) (tmps : Array Value) (ps : Array Tmp) (assign body : Code) {l : Nat} {r : Loop} (hg : w.heap[l]? = some (.loop r)) :
    (Instr.enterLoop fn tmps ps assign body (some l)).run P w = .ok (w.heap.size, []) (w.alloc (.loop { state := .ready, pending := none, fn, tmps, params := ps, assign, body, defers := r.defers })) := by
  unfold Instr.enterLoop
  simp only [Sem.run_bind, run_getLoop hg, run_newObj_alloc, Result.andThen, Sem.run_pure]
end
section
variable {X : Ctx} {n0 : Nat} {w0 : World} {rec : AF → Fr Fin} {lm : Nat} {φ : Map} {s s' : HS} {w : World}
theorem Ups.same {d : Bool} {m : AMd} {cs ds : List Frame} (h : Ups φ d m cs ds) (hd : d = false) : ds = cs := by
  subst hd; cases h; rfl
/-- A round's end, or the way out of a function. -/
theorem jumpA_sound {A : AF} {jump : Option Code} {r : St} (hr : (jumpA A jump).run s = some (r, s')) (h : Rel n0 w0 lm φ s w) {fr : Frame} {cs0 cs : List Frame} (hf : FrR φ A fr) (hups : Ups φ A.dfd A.up cs0 cs) (hround : A.round ≠ none → cs0 ≠ [] ∧ A.dfd = false) (hmode : A.mode = .run) {k : List Item}
    (hj : jump = none ∧ fr.todo = [] ∨ jump = some .ret ∧ fr.todo = .code .ret :: k ∨ (∃ id, jump = some (.exit id) ∧ fr.todo = .code (.exit id) :: k ∧ exitTo id k = none) ∨ (∃ id, jump = some (.goto id) ∧ fr.todo = .code (.goto id) :: k ∧ gotoIn id k = none)) :
    StepOk X.P n0 w0 lm φ s s' w A (lone fr cs w) cs0 r := by
  obtain ⟨fn, N, T, todo, defers, mode, dfd, up, round⟩ := A
  dsimp only at hmode
  subst hmode
  have hmd : fr.mode = .run := by
    have hq := hf.mode
    dsimp only at hq
    generalize fr.mode = q at *
    cases hq; rfl
  simp only [jumpA] at hr
  cases round with
  | none =>
    have hro : fr.roundOf = none := by
      rcases hf.round with ⟨_, e⟩ | ⟨_, _, e, _⟩
      · exact e
      · cases e
    dsimp only at hr
    have key : (jump = none ∨ jump = some .ret) ∧ r = .go ⟨fn, N, T, todo, defers, .ret, dfd, up, none⟩ ∧ s' = s := by
      split at hr
      · obtain ⟨rfl, rfl⟩ := Fr.ret_run hr; exact ⟨.inl rfl, rfl, rfl⟩
      · obtain ⟨rfl, rfl⟩ := Fr.ret_run hr; exact ⟨.inr rfl, rfl, rfl⟩
      · cases hr
    obtain ⟨hj2, rfl, rfl⟩ := key
    have ht : fr.todo = [] ∨ fr.todo = .code .ret :: k := by
      rcases hj with ⟨_, e⟩ | ⟨_, e⟩ | ⟨id, e, _⟩ | ⟨id, e, _⟩
      · exact .inl e
      · exact .inr e
      · rcases hj2 with hj2 | hj2 <;> (rw [hj2] at e; cases e)
      · rcases hj2 with hj2 | hj2 <;> (rw [hj2] at e; cases e)
    exact ⟨φ, w, _, cs, .one (st_leave hmd hro ht), Ext.refl _ _ _, h, ⟨hf.fn, hf.tmps, fun e => (by cases e), hf.defers, .ret, hf.kind, .inl ⟨rfl, hro⟩⟩, hups, rfl, rfl, rfl⟩
  | some j =>
    obtain ⟨hne, hdf⟩ := hround (by simp)
    dsimp only at hdf
    have hcs := hups.same hdf
    subst hcs
    obtain ⟨c, cs', rfl⟩ : ∃ c cs', cs = c :: cs' := by cases cs with | nil => exact absurd rfl hne | cons c cs' => exact ⟨c, cs', rfl⟩
    rcases hf.round with ⟨e, _⟩ | ⟨j', p, e, hp, hro⟩
    · cases e
    obtain rfl := Option.some.inj e
    have hkd : fr.kind = .normal := by have := hf.kind; rw [this, hdf]; rfl
    obtain ⟨o, s1, h1, h2⟩ := Fr.bind_run hr
    obtain ⟨g1, g2, g3⟩ := Fr.get_run h1
    cases o with
    | loop st pend fn' N' T' ps assign body dh =>
      dsimp only at h2
      obtain ⟨p', b, q1, q2, q3, q4, q5⟩ := h.objs _ _ g1 rfl
      obtain rfl := Option.some.inj (q1.symm.trans hp)
      cases q3 with
      | @loop _ _ _ _ _ _ tmps _ _ _ _ q hs ht hq =>
        have he := run_endRound (P := X.P) jump q2
        cases jump with
        | none =>
          obtain ⟨u, s2, h3, h4⟩ := Fr.bind_run h2
          obtain ⟨rfl, rfl⟩ := Fr.ret_run h4
          obtain ⟨a1, a2⟩ := (h.heap g2 g3).set h3 (by rw [g2]; exact g1) rfl rfl hp _ (.loop (st := .ready) (pend := none) (fn := fn') (params := ps) (assign := assign) (body := body) hs ht hq)
          exact ⟨φ, _, _, .one (st_endRound hmd hro hkd hj he), by rw [a1, g3]; exact Ext.refl _ _ _, a2, c, cs', _, rfl, rfl, .bool _⟩
        | some cd =>
          obtain ⟨u, s2, h3, h4⟩ := Fr.bind_run h2
          obtain ⟨rfl, rfl⟩ := Fr.ret_run h4
          obtain ⟨a1, a2⟩ := (h.heap g2 g3).set h3 (by rw [g2]; exact g1) rfl rfl hp _ (.loop (st := .done) (pend := some cd) (fn := fn') (params := ps) (assign := assign) (body := body) hs ht hq)
          exact ⟨φ, _, _, .one (st_endRound hmd hro hkd hj he), by rw [a1, g3]; exact Ext.refl _ _ _, a2, c, cs', _, rfl, rfl, .bool _⟩
    | _ => cases h2
end
end
end Go.Proofs.YtifcganfcjildaaGreatDoor.E
