/- Merged out of: E36, E37. -/
import Derived.Test.YtifcganfcjildaaGreatDoorJ12
/- Steps of a frame that runs: loops over functions, rounds, ways out. -/
namespace Go.Proofs.YtifcganfcjildaaGreatDoor.E
open Go Go.RowKit
set_option linter.unusedVariables false
set_option linter.unusedSimpArgs false
set_option linter.unnecessarySimpa false
noncomputable section

theorem IRs.inv {φ : Map} {x : AI} {l : List AI} {k : List Item} (h : IRs φ (x :: l) k) : ∃ y ks, k = y :: ks ∧ IR φ x y ∧ IRs φ l ks := by
  cases h with | cons a t => exact ⟨_, _, rfl, a, t⟩
theorem exit_rel {φ : Map} {id : Nat} : ∀ {l : List AI} {k : List Item}, IRs φ l k → (∀ l', exitA id l = some l' → ∃ k', exitTo id k = some k' ∧ IRs φ l' k') ∧ (exitA id l = none → exitTo id k = none)
  | _, _, .nil => ⟨fun _ h => (by cases h), fun _ => rfl⟩
  | _, _, .cons (l := l) (k := k) hx t => by
    have ih := exit_rel (id := id) t
    cases hx with
    | blk i =>
      simp only [exitA, exitTo]
      cases hb : Nat.beq i id with
      | true =>
        have : i = id := Nat.eq_of_beq_eq_true hb
        subst this
        exact ⟨fun l' h => ⟨k, by simp, by obtain rfl := Option.some.inj h; exact t⟩, fun h => by cases h⟩
      | false =>
        have : (i == id) = false := by rw [beq_eq_false_iff_ne]; exact Nat.ne_of_beq_eq_false hb
        simp only [this]
        exact ih
    | _ => exact ih
theorem goto_rel {φ : Map} {lb : Nat} : ∀ {l : List AI} {k : List Item}, IRs φ l k → (∀ l', gotoA lb l = some l' → ∃ k', gotoIn lb k = some k' ∧ IRs φ l' k') ∧ (gotoA lb l = none → gotoIn lb k = none)
  | _, _, .nil => ⟨fun _ h => (by cases h), fun _ => rfl⟩
  | _, _, .cons (l := l) (k := k) hx t => by
    have ih := goto_rel (lb := lb) t
    cases hx with
    | sc b =>
      simp only [gotoA, gotoIn]
      cases hb : findLabel b lb with
      | some r => exact ⟨fun l' h => ⟨_, rfl, by obtain rfl := Option.some.inj h; exact .cons (.code _) (.cons (.sc _) t)⟩, fun h => by cases h⟩
      | none => exact ih
    | _ => exact ih
theorem Ext.map {n m : Nat} {φ ψ : Map} (h : Ext n m φ ψ) : φ.le ψ := h.le
section
variable {P : Program} {fr : Frame} {cs : List Frame} {w w' : World} {k : List Item}
theorem st_endRound {l : Nat} {jump : Option Code} {v : Value} {c : Frame} (hm : fr.mode = .run) (hr : fr.roundOf = some l) (hk : fr.kind = .normal)
    (h : jump = none ∧ fr.todo = [] ∨ jump = some .ret ∧ fr.todo = .code .ret :: k ∨ (∃ id, jump = some (.exit id) ∧ fr.todo = .code (.exit id) :: k ∧ exitTo id k = none) ∨ (∃ id, jump = some (.goto id) ∧ fr.todo = .code (.goto id) :: k ∧ gotoIn id k = none))
    (he : (Instr.endRound l jump).run P w = .ok v w') : step P (lone fr (c :: cs) w) = .next (lone (c.finish v) cs w') := by
  refine step_lone_go ?_
  rcases h with ⟨rfl, h⟩ | ⟨rfl, h⟩ | ⟨id, rfl, h, h2⟩ | ⟨id, rfl, h, h2⟩ <;>
  · simp only [stepG, hm, stepG.exec, h, hr, Sem.runT_eq, he, GStep.bare_after, doReturn, hk]
    first | rfl | (simp only [h2, Option.elim, Sem.runT_eq, he, GStep.bare_after, doReturn, hk]; rfl)
theorem st_begin {l : Nat} {r : Loop} (hm : fr.mode = .run) (hr : fr.roundOf = some l) (ht : fr.todo = .beginRound :: k) (hg : w.heap[l]? = some (.loop r)) (hs : r.state = .ready) :
    step P (lone fr cs w) = .next (lone { fr with todo := k } cs (w.putObj l (.loop { r with state := .busy }))) := by
  refine step_lone_go ?_
  have h1 := run_beginRound (P := P) hg hs
  have h2 : (do fr.roundOf.elim (stuck "beginRound: no round") Instr.beginRound; pure Next.skip : Sem Next).run P w = .ok .skip (w.putObj l (.loop { r with state := .busy })) := by
    simp only [hr, Option.elim, Sem.run_bind, h1, Result.andThen, Sem.run_pure]
  have h3 := ap_skip (fr := fr) (cs := cs) h2
  have h4 : fr.finish undef = { fr with todo := k } := by simp [Frame.finish, ht]
  rw [h4] at h3
  rw [← h3]
  simp only [stepG, hm, stepG.exec, ht]
theorem st_endLoop {l : Nat} {r : Loop} (hm : fr.mode = .run) (ht : fr.todo = .endRangeFunc l :: k) (hg : w.heap[l]? = some (.loop r)) (hs : r.state ≠ .busy) :
    step P (lone fr cs w) = .next (lone { fr with todo := (r.pending.map Item.code).toList ++ k } cs (w.putObj l (.loop { r with state := .exhausted }))) := by
  refine step_lone_go ?_
  have h1 := run_endLoop (P := P) hg hs
  simp only [stepG, hm, stepG.exec, ht, Sem.runT_eq, h1, GStep.bare_after]
  rfl
theorem st_rangeFunc {f : Operand} {ps : Array Tmp} {assign body : Code} (hm : fr.mode = .run) (ht : fr.todo = .code (.rangeFunc f ps assign body) :: k) {l : Nat} {mark : List Deferred}
    (he : (Instr.enterLoop fr.fn fr.tmps ps assign body fr.roundOf).run P w = .ok (l, mark) w') {g : FuncId} {A B : Array Value} (hf : fr.eval f = .func (.func g) A B) {fn : Func} {c : Code} (hg : P.funcs[g]? = some fn) (hb : fn.body = some c) (hn : (fn.name == "runtime.NumGoroutine") = false) :
    step P (lone fr cs w) = .next (lone (Frame.enter P g (A ++ #[.func (.yield l) #[] #[]] ++ B) .normal) ({ fr with todo := .inRangeFunc l :: k, defers := mark ++ fr.defers } :: cs) w') := by
  refine step_lone_go ?_
  simp at hn
  have hev : ({ fr with todo := .inRangeFunc l :: k, defers := mark ++ fr.defers } : Frame).eval = fr.eval := by funext x; cases x <;> rfl
  have h2 : (do let d ← resolve ({ fr with todo := .inRangeFunc l :: k, defers := mark ++ fr.defers } : Frame).eval { callee := .value f, args := #[.const (.func (.yield l) #[] #[])], argTypes := #[] } 0; invoke d.target d.args : Sem Next).run P w' = .ok (.enter g (A ++ #[.func (.yield l) #[] #[]] ++ B)) w' := by
    rw [hev]
    have hc : fr.eval (.const (.func (.yield l) #[] #[])) = .func (.yield l) #[] #[] := rfl
    simp [resolve, hf, Deferred.ofValue, invoke, callFunc, hg, hb, hn, hc]
  have h3 := ap_enter (fr := { fr with todo := .inRangeFunc l :: k, defers := mark ++ fr.defers }) (cs := cs) (by intro d b r e k hh; cases hh) h2
  rw [← h3]
  simp only [stepG, hm, stepG.exec, ht, Sem.runT_eq, he, GStep.bare_after]
theorem run_enterLoop_inner (fn : FuncId) (tmps : Array Value) (ps : Array Tmp) (assign body : Code) {l : Nat} {r : Loop} (hg : w.heap[l]? = some (.loop r)) :
    (Instr.enterLoop fn tmps ps assign body (some l)).run P w = .ok (w.heap.size, []) (w.alloc (.loop { state := .ready, pending := none, fn, tmps, params := ps, assign, body, defers := r.defers })) := by
  unfold Instr.enterLoop
  simp only [Sem.run_bind, run_getLoop hg, run_newObj_alloc, Result.andThen, Sem.run_pure]
end
section
variable {X : Ctx} {n0 : Nat} {w0 : World} {rec : AF → Fr Fin} {lm : Nat} {φ : Map} {s s' : HS} {w : World}
theorem Ups.same {d : Bool} {m : AMd} {cs ds : List Frame} (h : Ups φ d m cs ds) (hd : d = false) : ds = cs := by
  subst hd; cases h; rfl
/-- A round's end, or the way out of a function. -/
theorem jumpA_sound {A : AF} {jump : Option Code} {r : St} (hr : (jumpA A jump).run s = some (r, s')) (h : Rel n0 w0 lm φ s w) {fr : Frame} {cs0 cs : List Frame} (hf : FrR φ A fr) (hups : Ups φ A.dfd A.up cs0 cs) (hround : A.round ≠ none → cs0 ≠ [] ∧ A.dfd = false) (hmode : A.mode = .run) {k : List Item}
    (hj : jump = none ∧ fr.todo = [] ∨ jump = some .ret ∧ fr.todo = .code .ret :: k ∨ (∃ id, jump = some (.exit id) ∧ fr.todo = .code (.exit id) :: k ∧ exitTo id k = none) ∨ (∃ id, jump = some (.goto id) ∧ fr.todo = .code (.goto id) :: k ∧ gotoIn id k = none)) :
    StepOk X.P n0 w0 lm φ s s' w A (lone fr cs w) cs0 r := by
  obtain ⟨fn, N, T, todo, defers, mode, dfd, up, round⟩ := A
  dsimp only at hmode
  subst hmode
  have hmd : fr.mode = .run := by
    have hq := hf.mode
    dsimp only at hq
    generalize fr.mode = q at *
    cases hq; rfl
  simp only [jumpA] at hr
  cases round with
  | none =>
    have hro : fr.roundOf = none := by
      rcases hf.round with ⟨_, e⟩ | ⟨_, _, e, _⟩
      · exact e
      · cases e
    dsimp only at hr
    have key : (jump = none ∨ jump = some .ret) ∧ r = .go ⟨fn, N, T, todo, defers, .ret, dfd, up, none⟩ ∧ s' = s := by
      split at hr
      · obtain ⟨rfl, rfl⟩ := Fr.ret_run hr; exact ⟨.inl rfl, rfl, rfl⟩
      · obtain ⟨rfl, rfl⟩ := Fr.ret_run hr; exact ⟨.inr rfl, rfl, rfl⟩
      · cases hr
    obtain ⟨hj2, rfl, rfl⟩ := key
    have ht : fr.todo = [] ∨ fr.todo = .code .ret :: k := by
      rcases hj with ⟨_, e⟩ | ⟨_, e⟩ | ⟨id, e, _⟩ | ⟨id, e, _⟩
      · exact .inl e
      · exact .inr e
      · rcases hj2 with hj2 | hj2 <;> (rw [hj2] at e; cases e)
      · rcases hj2 with hj2 | hj2 <;> (rw [hj2] at e; cases e)
    exact ⟨φ, w, _, cs, .one (st_leave hmd hro ht), Ext.refl _ _ _, h, ⟨hf.fn, hf.tmps, fun e => (by cases e), hf.defers, .ret, hf.kind, .inl ⟨rfl, hro⟩⟩, hups, rfl, rfl, rfl⟩
  | some j =>
    obtain ⟨hne, hdf⟩ := hround (by simp)
    dsimp only at hdf
    have hcs := hups.same hdf
    subst hcs
    obtain ⟨c, cs', rfl⟩ : ∃ c cs', cs = c :: cs' := by cases cs with | nil => exact absurd rfl hne | cons c cs' => exact ⟨c, cs', rfl⟩
    rcases hf.round with ⟨e, _⟩ | ⟨j', p, e, hp, hro⟩
    · cases e
    obtain rfl := Option.some.inj e
    have hkd : fr.kind = .normal := by have := hf.kind; rw [this, hdf]; rfl
    obtain ⟨o, s1, h1, h2⟩ := Fr.bind_run hr
    obtain ⟨g1, g2, g3⟩ := Fr.get_run h1
    cases o with
    | loop st pend fn' N' T' ps assign body dh =>
      dsimp only at h2
      obtain ⟨p', b, q1, q2, q3, q4, q5⟩ := h.objs _ _ g1 rfl
      obtain rfl := Option.some.inj (q1.symm.trans hp)
      cases q3 with
      | @loop _ _ _ _ _ _ tmps _ _ _ _ q hs ht hq =>
        have he := run_endRound (P := X.P) jump q2
        cases jump with
        | none =>
          obtain ⟨u, s2, h3, h4⟩ := Fr.bind_run h2
          obtain ⟨rfl, rfl⟩ := Fr.ret_run h4
          obtain ⟨a1, a2⟩ := (h.heap g2 g3).set h3 (by rw [g2]; exact g1) rfl rfl hp _ (.loop (st := .ready) (pend := none) (fn := fn') (params := ps) (assign := assign) (body := body) hs ht hq)
          exact ⟨φ, _, _, .one (st_endRound hmd hro hkd hj he), by rw [a1, g3]; exact Ext.refl _ _ _, a2, c, cs', _, rfl, rfl, .bool _⟩
        | some cd =>
          obtain ⟨u, s2, h3, h4⟩ := Fr.bind_run h2
          obtain ⟨rfl, rfl⟩ := Fr.ret_run h4
          obtain ⟨a1, a2⟩ := (h.heap g2 g3).set h3 (by rw [g2]; exact g1) rfl rfl hp _ (.loop (st := .done) (pend := some cd) (fn := fn') (params := ps) (assign := assign) (body := body) hs ht hq)
          exact ⟨φ, _, _, .one (st_endRound hmd hro hkd hj he), by rw [a1, g3]; exact Ext.refl _ _ _, a2, c, cs', _, rfl, rfl, .bool _⟩
    | _ => cases h2
end
end
end Go.Proofs.YtifcganfcjildaaGreatDoor.E

/- An operation hangs on its operands alone; what comes of operations in any order, in plain words. -/
namespace Go.Proofs.YtifcganfcjildaaGreatDoor.E
open Go Go.RowKit
set_option linter.unusedVariables false
set_option linter.unusedSimpArgs false
set_option linter.unnecessarySimpa false
noncomputable section

section
variable {T T' : Temps}
theorem evOs_congr : ∀ {l : List Operand}, (∀ x ∈ l, evO T x = evO T' x) → evOs T l = evOs T' l
  | [], _ => rfl
  | x :: l, h => by unfold evOs; rw [h x (by simp), evOs_congr fun y hy => h y (by simp [hy])]
theorem evPs_congr : ∀ {l : List (Nat × Operand)}, (∀ p ∈ l, evO T p.2 = evO T' p.2) → evPs T l = evPs T' l
  | [], _ => rfl
  | (i, x) :: l, h => by unfold evPs; rw [h (i, x) (by simp), evPs_congr fun y hy => h y (by simp [hy])]
theorem boundO_congr {x : Option Operand} (h : ∀ y ∈ x, evO T y = evO T' y) (d hi : Nat) : boundO T d hi x = boundO T' d hi x := by
  cases x with
  | none => rfl
  | some y => simp only [boundO, h y rfl]
theorem evOp_congr {X : Ctx} {o : Op} (h : ∀ x ∈ o.operands, evO T x = evO T' x) : evOp X T o = evOp X T' o := by
  cases o <;> simp only [Op.operands, List.mem_toArray, Array.mem_append, List.mem_map, Array.mem_toList_iff] at h <;> try rfl
  case build t ps => simp only [evOp, ev_build, ev_buildSlice, ev_makeFunc]; rw [evPs_congr (T' := T') fun p hp => h _ ⟨p, by simpa using hp, rfl⟩]
  case buildSlice t n ps => simp only [evOp, ev_build, ev_buildSlice, ev_makeFunc]; rw [evPs_congr (T' := T') fun p hp => h _ ⟨p, by simpa using hp, rfl⟩]
  case makeFunc f x y => simp only [evOp, ev_build, ev_buildSlice, ev_makeFunc]; rw [evOs_congr (T' := T') fun z hz => h z (.inl (by simpa using hz)), evOs_congr (T' := T') fun z hz => h z (.inr (by simpa using hz))]
  case call c =>
    obtain ⟨callee, args, ats⟩ := c
    simp only [evOp, callA]
    have ha : evOs T args.toList = evOs T' args.toList := evOs_congr fun z hz => h z (by simp [Call.operands]; right; simpa using hz)
    rw [ha]
    cases callee with
    | value f => dsimp only; rw [h f (by simp [Call.operands])]
    | builtin b => cases b <;> rfl
    | invoke r n => rfl
  case slice t x lo hi mx =>
    simp only [evOp, ev_slice, with1]
    rw [h x (by simp)]
    have h1 : ∀ d n, boundO T d n lo = boundO T' d n lo := boundO_congr fun y hy => h y (by simp at hy; simp [hy])
    have h2 : ∀ d n, boundO T d n hi = boundO T' d n hi := boundO_congr fun y hy => h y (by simp at hy; simp [hy])
    have h3 : ∀ d n, boundO T d n mx = boundO T' d n mx := boundO_congr fun y hy => h y (by simp at hy; simp [hy])
    have h4 : ∀ P t a, sliceA P T t a lo hi mx = sliceA P T' t a lo hi mx := by intro P t a; unfold sliceA; simp only [h1, h2, h3]
    have h5 : ∀ P k e b off, sliceArr P T k e b off lo hi mx = sliceArr P T' k e b off lo hi mx := by intro P k e b off; unfold sliceArr; simp only [h1, h2, h3]
    have h6 : ∀ P t a, sliceU P T t a lo hi mx = sliceU P T' t a lo hi mx := by intro P t a; unfold sliceU; simp only [h1, h2, h3]
    simp only [h4, h5, h6]
  all_goals simp only [List.mem_cons, List.not_mem_nil, or_false, forall_eq_or_imp, forall_eq] at h; simp only [evOp, ev_pick, ev_alloc, ev_box, ev_build, ev_buildSlice, ev_load, ev_store, ev_nilCheck, ev_binOp, ev_unOp, ev_convert, ev_makeInterface, ev_makeFunc, ev_makeMap, ev_makeSlice, ev_slice, ev_fieldAddr, ev_field, ev_indexAddr, ev_index, ev_lookup, ev_mapUpdate, ev_mapEntry, ev_entryStore, ev_range, ev_next, ev_typeAssert, ev_extract, ev_panic, with1, with2, with3, h]
theorem opA_congr {X : Ctx} {rec : AF → Fr Fin} {o : Oper} (h : ∀ x ∈ o.op.operands, evO T x = evO T' x) : opA X rec T o = opA X rec T' o := by
  unfold opA; rw [evOp_congr h]
end
/-! ### Operations in any order -/
section
variable {L V : Type} (σ : Nat → L → V) (Wr : Nat → L → Bool)
/-- What comes of some of the operations: of each place the last word. -/
def lastv (S : Nat → Bool) : Nat → L → V
  | 0, h => σ 0 h
  | i + 1, h => if S i = true ∧ Wr i h = true then σ (i + 1) h else lastv S i h
variable {σ Wr} {m : Nat} (hfr : ∀ i, i < m → ∀ h, Wr i h = false → σ (i + 1) h = σ i h)
include hfr
theorem lastv_upto {S : Nat → Bool} {h : L} : ∀ {j : Nat}, j ≤ m → (∀ i, i < j → Wr i h = true → S i = true) → lastv σ Wr S j h = σ j h
  | 0, _, _ => rfl
  | j + 1, hj, hS => by
    unfold lastv
    split
    · rfl
    · next c =>
      rw [lastv_upto (by omega) fun i hi hw => hS i (by omega) hw]
      refine (hfr j (by omega) h ?_).symm
      cases hw : Wr j h with
      | false => rfl
      | true => exact absurd ⟨hS j (by omega) hw, hw⟩ c
omit hfr in
theorem lastv_stay {S : Nat → Bool} {h : L} {j : Nat} : ∀ {k : Nat}, j ≤ k → (∀ i, j ≤ i → i < k → Wr i h = true → S i = false) → lastv σ Wr S k h = lastv σ Wr S j h
  | 0, hk, _ => by
    have : j = 0 := by omega
    subst this; rfl
  | k + 1, hk, hS => by
    by_cases c : j = k + 1
    · subst c; rfl
    · show (if S k = true ∧ Wr k h = true then σ (k + 1) h else lastv σ Wr S k h) = _
      rw [if_neg, lastv_stay (by omega) fun i h1 h2 h3 => hS i h1 (by omega) h3]
      rintro ⟨h1, h2⟩
      rw [hS k (by omega) (by omega) h2] at h1
      cases h1
theorem lastv_agree {S : Nat → Bool} {h : L} {j : Nat} (hj : j < m) (hSj : S j = false) (h1 : ∀ i, i < j → Wr i h = true → S i = true) (h2 : ∀ k, j < k → k < m → Wr k h = true → S k = false) : lastv σ Wr S m h = σ j h := by
  rw [lastv_stay (j := j) (by omega) fun i a b c => ?_, lastv_upto hfr (by omega) h1]
  by_cases e : i = j
  · subst e; exact hSj
  · exact h2 i (by omega) b c
omit hfr in
theorem lastv_add {S S' : Nat → Bool} {h : L} {j : Nat} (hj : j < m) (hS' : ∀ i, S' i = (S i || decide (i = j))) (hSj : S j = false) (h2 : Wr j h = true → ∀ k, j < k → k < m → Wr k h = true → S k = false) :
    lastv σ Wr S' m h = if Wr j h = true then σ (j + 1) h else lastv σ Wr S m h := by
  have lo : ∀ k, k ≤ j → lastv σ Wr S' k h = lastv σ Wr S k h := by
    intro k
    induction k with
    | zero => intro _; rfl
    | succ k ih =>
      intro hk
      unfold lastv
      have : S' k = S k := by rw [hS']; have : k ≠ j := by omega
                              simp [this]
      rw [this, ih (by omega)]
  have hi : ∀ k, j + 1 ≤ k → k ≤ m → lastv σ Wr S' k h = if Wr j h = true then σ (j + 1) h else lastv σ Wr S k h := by
    intro k
    induction k with
    | zero => intro a _; omega
    | succ k ih =>
      intro a b
      by_cases c : k = j
      · subst c
        unfold lastv
        have : S' k = true := by rw [hS']; simp
        rw [this, hSj, lo k (by omega)]
        simp
      · have hk := ih (by omega) (by omega)
        unfold lastv
        have : S' k = S k := by rw [hS']; simp [c]
        rw [this, hk]
        by_cases w : Wr j h = true
        · by_cases wk : Wr k h = true
          · rw [h2 w k (by omega) (by omega) wk]; simp [w]
          · simp [w, wk]
        · simp [w]
  exact hi m (by omega) (by omega)
theorem lastv_all {S : Nat → Bool} (hS : ∀ i, i < m → S i = true) (h : L) : lastv σ Wr S m h = σ m h := lastv_upto hfr (by omega) fun i hi _ => hS i hi
end
end
end Go.Proofs.YtifcganfcjildaaGreatDoor.E

