/- A frame entered, left; calls as units. -/
import Derived.Test.YtifcganfcjildaaGreatDoorE32
namespace Go.Proofs.YtifcganfcjildaaGreatDoor.E
open Go Go.RowKit
set_option linter.unusedVariables false
set_option linter.unusedSimpArgs false
set_option linter.unnecessarySimpa false
noncomputable section

section
variable {P : Program} {fr : Frame} {cs : List Frame} {w w' : World} {s : Sem Next}
/-- Is the frame at no call that is its last? -/
def Frame.here (fr : Frame) : Prop := ∀ d r e k b, fr.todo ≠ .call d b r e :: k
theorem ap_value {v : Value} (h : s.run P w = .ok (.value v) w') : (stepG.apply P true fr cs none s w).bare = .go { frame := fr.finish v, callers := cs, status := .running, dying := none } w' := by
  simp only [stepG.apply, if_true, Sem.runT_eq, h, GStep.bare_after, GStep.bare_go]
theorem ap_skip (h : s.run P w = .ok .skip w') : (stepG.apply P true fr cs none s w).bare = .go { frame := fr.finish undef, callers := cs, status := .running, dying := none } w' := by
  simp only [stepG.apply, if_true, Sem.runT_eq, h, GStep.bare_after, GStep.bare_go]
theorem ap_panic {v : Value} (h : s.run P w = .halt (.panic v) w') : (stepG.apply P true fr cs none s w).bare = .go { frame := fr.raise [{ v, recovered := false }], callers := cs, status := .running, dying := none } w' := by
  simp only [stepG.apply, if_true, Sem.runT_eq, h, GStep.bare_after, GStep.bare_go]
theorem ap_defer {d : Deferred} (h : s.run P w = .ok (.defer d) w') : (stepG.apply P true fr cs none s w).bare = .go { frame := ({ fr with defers := d :: fr.defers } : Frame).finish undef, callers := cs, status := .running, dying := none } w' := by
  simp only [stepG.apply, if_true, Sem.runT_eq, h, GStep.bare_after, GStep.bare_go]
theorem ap_enter {f : FuncId} {args : Array Value} (hk : ∀ d b r e k, fr.todo ≠ .call d b r e :: k) (h : s.run P w = .ok (.enter f args) w') :
    (stepG.apply P true fr cs none s w).bare = .go { frame := Frame.enter P f args .normal, callers := fr :: cs, status := .running, dying := none } w' := by
  simp only [stepG.apply, if_true, Sem.runT_eq, h, GStep.bare_after, GStep.bare_go]
  congr 3
  split
  · next d r e k hh => exact absurd hh (hk _ _ _ _ _)
  · rfl
theorem ap_round {l : Nat} {f : FuncId} {tmps : Array Value} {assign body : Code} (h : s.run P w = .ok (.round l f tmps assign body) w') :
    (stepG.apply P true fr cs none s w).bare = .go { frame := Frame.round l f tmps assign body .normal, callers := fr :: cs, status := .running, dying := none } w' := by
  simp only [stepG.apply, if_true, Sem.runT_eq, h, GStep.bare_after, GStep.bare_go]
end
def kindOf (d : Bool) : CallKind := if d then .deferred else .normal
/-- Callers, as they were, as they are. -/
inductive Ups (φ : Map) : Bool → AMd → List Frame → List Frame → Prop
  | no (m : AMd) (cs : List Frame) : Ups φ false m cs cs
  | yes {m : AMd} {u : FrameMode} (c : Frame) (k : List Frame) (h : MR φ m u) : Ups φ true m (c :: k) ({ c with mode := u } :: k)
theorem Ups.mono {φ ψ : Map} (h : φ.le ψ) {d : Bool} {m : AMd} {cs ds : List Frame} : Ups φ d m cs ds → Ups ψ d m cs ds
  | .no m cs => .no m cs
  | .yes c k e => .yes c k (e.mono h)
/-- Where a frame's run ends. -/
def Lands (P : Program) (ψ : Map) (A : AF) (cs0 : List Frame) (m : Machine) (w : World) : Fin → Prop
  | .ret v u => match A.round with
    | none => ∃ fr cs V fn, m = lone fr cs w ∧ Ups ψ A.dfd u cs0 cs ∧ fr.mode = .returning ∧ fr.defers = [] ∧ fr.fn = A.fn ∧ fr.kind = kindOf A.dfd ∧ P.funcs[fr.fn]? = some fn ∧ (results fn fr.tmps).run P w = .ok V w ∧ VR ψ v V
    | some _ => ∃ c k V, cs0 = c :: k ∧ m = lone (c.finish V) k w ∧ VR ψ v V
  | .pan c u => ∃ fr cs k fn, m = lone fr cs w ∧ Ups ψ A.dfd u cs0 cs ∧ fr.mode = .panicking k ∧ fr.defers = [] ∧ fr.fn = A.fn ∧ fr.kind = kindOf A.dfd ∧ P.funcs[fr.fn]? = some fn ∧ CR ψ c k
/-- A way to run a frame to its end. -/
def UnitOk (X : Ctx) (n0 : Nat) (w0 : World) (rec : AF → Fr Fin) : Prop := ∀ A s r s', (rec A).run s = some (r, s') → ∀ lm φ w fr cs0 cs, Rel n0 w0 lm φ s w → s'.next ≤ lm → FrR φ A fr → Ups φ A.dfd A.up cs0 cs → (A.round ≠ none → cs0 ≠ [] ∧ A.dfd = false) →
  ∃ ψ w' m, Steps X.P (lone fr cs w) m ∧ Ext s.next s'.next φ ψ ∧ Rel n0 w0 lm ψ s' w' ∧ Lands X.P ψ A cs0 m w' r
theorem fillT_sound {φ : Map} {N : Nat} : ∀ {l : List AV} {L : List Value} {T T' : Temps} {i : Nat} {tm : Array Value}, fillT N T i l = some T' → VRs φ l L → tm.size = N → i + L.length ≤ N →
    (∀ t v, T.get t = some v → t < i ∧ VR φ v (tm.getD t undef)) → (∀ j, j < L.length → tm[i + j]? = L[j]?) → ∀ t v, T'.get t = some v → t < N ∧ VR φ v (tm.getD t undef)
  | [], _, T, T', i, tm, h, .nil, hs, hi, hT, hL, t, v, e => by
    obtain rfl := Option.some.inj h
    exact ⟨by have := (hT t v e).1; simp at hi; omega, (hT t v e).2⟩
  | u :: l, _, T, T', i, tm, h, .cons (x := x) (k := k) hu hl, hs, hi, hT, hL, t, v, e => by
    unfold fillT at h
    split at h
    · cases h
    · next T1 h1 =>
      simp only [List.length_cons] at hi hL
      refine fillT_sound h hl hs (by omega) (fun t v e => ?_) (fun j hj => ?_) t v e
      · unfold putT at h1
        dsimp only at h1
        cases hb : Nat.blt i N with
        | false => rw [hb] at h1; cases h1
        | true =>
          rw [hb] at h1
          dsimp only [cd] at h1
          rw [AV.seq_eq] at h1
          rw [Tr.get_put h1] at e
          by_cases c : t = i
          · subst c
            rw [if_pos rfl] at e
            obtain rfl := Option.some.inj e
            have := hL 0 (by omega)
            simp only [Nat.add_zero, List.getElem?_cons_zero] at this
            exact ⟨by omega, by rw [Array.getD_eq_getD_getElem?, this]; exact hu⟩
          · rw [if_neg c] at e
            obtain ⟨q1, q2⟩ := hT t v e
            exact ⟨by omega, q2⟩
      · have := hL (j + 1) (by omega)
        rw [List.getElem?_cons_succ] at this
        rw [← this]; congr 1; omega
theorem enterA_sound {P : Program} {φ : Map} {g : FuncId} {args : List AV} {L : Array Value} {d : Bool} {u : AMd} {A : AF} (h : enterA P g args d u = some A) (hl : VRs φ args L.toList) :
    FrR φ A (Frame.enter P g L (kindOf d)) ∧ A.dfd = d ∧ A.up = u ∧ A.round = none ∧ A.fn = g := by
  unfold enterA at h
  cases hf : P.funcs[g]? with
  | none => rw [hf] at h; cases h
  | some fn =>
    rw [hf] at h
    dsimp only at h
    cases hb : fn.body with
    | none => rw [hb] at h; cases h
    | some c =>
      rw [hb] at h
      dsimp only at h
      cases hle : Nat.ble args.length fn.ntmps with
      | false => rw [hle] at h; cases h
      | true =>
        rw [hle] at h
        dsimp only [cd] at h
        have hle' := Nat.le_of_ble_eq_true hle
        split at h
        · cases h
        · next T hT =>
          obtain rfl := Option.some.inj h
          have hlen := hl.length
          have hsz : L.toList.length = L.size := Array.length_toList
          refine ⟨⟨rfl, ⟨?_, ?_⟩, ?_, .nil, .run, rfl, .inl ⟨rfl, rfl⟩⟩, rfl, rfl, rfl, rfl⟩
          · show (Frame.enter P g L (kindOf d)).tmps.size = fn.ntmps
            simp [Frame.enter, hf]; omega
          · refine fillT_sound hT hl ?_ (show 0 + L.toList.length ≤ fn.ntmps by omega) (fun t v e => by rw [Tr.get_nil] at e; cases e) (fun j hj => ?_)
            · show (Frame.enter P g L (kindOf d)).tmps.size = fn.ntmps
              simp [Frame.enter, hf]; omega
            · simp only [Frame.enter, Nat.zero_add]
              rw [Array.getElem?_append_left (by omega)]
              simp
          · intro _; simp only [Frame.enter, hf, Option.bind_some, hb, Option.getD_some]; exact .cons (.code c) .nil
section
variable {X : Ctx} {n0 : Nat} {w0 : World} {rec : AF → Fr Fin} {lm : Nat} {φ : Map} {s s' : HS} {w : World}
/-- What becomes of the caller. -/
def Back (P : Program) (ψ : Map) (m0 : Machine) (c : Frame) (cs : List Frame) (w : World) : Rs → Prop
  | .val v => ∃ V, VR ψ v V ∧ Steps P m0 (lone (c.finish V) cs w)
  | .pan ch => ∃ k, CR ψ ch k ∧ Steps P m0 (lone (c.raise k) cs w)
theorem lands_back {ψ : Map} {A : AF} {c : Frame} {cs : List Frame} {m0 m : Machine} {w' : World} {r : Fin} (hs : Steps X.P m0 m) (hd : A.dfd = false) (hl : Lands X.P ψ A (c :: cs) m w' r) : Back X.P ψ m0 c cs w' (finR r) := by
  cases r with
  | ret v u =>
    cases hro : A.round with
    | none =>
      simp only [Lands, hro] at hl
      obtain ⟨fr, cs1, V, fn, rfl, hu, h1, h2, h3, h4, h5, h6, h7⟩ := hl
      rw [hd] at hu h4
      cases hu
      refine ⟨V, h7, hs.trans (.one (step_leave_returned ⟨h1, h2, h4, fn, h5, h6⟩))⟩
    | some h =>
      simp only [Lands, hro] at hl
      obtain ⟨c', k', V, e, rfl, h7⟩ := hl
      obtain ⟨rfl, rfl⟩ := List.cons.inj e
      exact ⟨V, h7, hs⟩
  | pan ch u =>
    obtain ⟨fr, cs1, k, fn, rfl, hu, h1, h2, h3, h4, h5, h6⟩ := hl
    rw [hd] at hu
    cases hu
    exact ⟨k, h6, hs.trans (.one (step_leave_panicked ⟨h1, h2, fn, h5⟩))⟩
theorem callN_sound (hu : UnitOk X n0 w0 rec) {g : FuncId} {args : List AV} {L : Array Value} {r : Rs} (hr : (callN X rec g args).run s = some (r, s')) (h : Rel n0 w0 lm φ s w) (hm : s'.next ≤ lm) (hl : VRs φ args L.toList) (c : Frame) (cs : List Frame) :
    ∃ ψ w', Ext s.next s'.next φ ψ ∧ Rel n0 w0 lm ψ s' w' ∧ Back X.P ψ (lone (Frame.enter X.P g L .normal) (c :: cs) w) c cs w' r := by
  unfold callN at hr
  split at hr
  · cases hr
  · next A hA =>
    obtain ⟨r1, s1, h1, h2⟩ := Fr.bind_run hr
    obtain ⟨rfl, rfl⟩ := Fr.ret_run h2
    obtain ⟨e1, e2, e3, e4, e5⟩ := enterA_sound hA hl
    obtain ⟨ψ, w', m, k1, k2, k3, k4⟩ := hu A s r1 s' h1 lm φ w _ (c :: cs) (c :: cs) h hm e1 (by rw [e2]; exact .no _ _) (by rw [e4]; intro hh; exact absurd rfl hh)
    exact ⟨ψ, w', k2, k3, lands_back k1 e2 k4⟩
theorem callF_sound (hX : XOk X n0 w0) (hu : UnitOk X n0 w0 rec) {g : FuncId} {args : List AV} {L : Array Value} {r : Rs} (hr : (callF X rec g args).run s = some (r, s')) (h : Rel n0 w0 lm φ s w) (hm : s'.next ≤ lm) (hl : VRs φ args L.toList) (c : Frame) (cs : List Frame) :
    ∃ ψ w', Ext s.next s'.next φ ψ ∧ Rel n0 w0 lm ψ s' w' ∧ Back X.P ψ (lone (Frame.enter X.P g L .normal) (c :: cs) w) c cs w' r := by
  unfold callF at hr
  split at hr
  · next e he =>
    obtain ⟨v, s1, h1, h2⟩ := Fr.bind_run hr
    obtain ⟨rfl, rfl⟩ := Fr.ret_run h2
    obtain ⟨ψ, w', V, k1, k2, k3, k4⟩ := hX.sum g e he args v s _ h1 lm φ w L h hm hl c cs
    exact ⟨ψ, w', k1, k2, V, k3, k4⟩
  · exact callN_sound hu hr h hm hl c cs
/-- A deferred call. -/
theorem callD_sound (hu : UnitOk X n0 w0 rec) {g : FuncId} {args : List AV} {L : Array Value} {r : Fin} {u : AMd} {B : AF} (hB : enterA X.P g args true u = some B) (hr : (rec B).run s = some (r, s')) (h : Rel n0 w0 lm φ s w) (hm : s'.next ≤ lm) (hl : VRs φ args L.toList) (c : Frame) (cs : List Frame) (hc : MR φ u c.mode) :
    ∃ ψ w', Ext s.next s'.next φ ψ ∧ Rel n0 w0 lm ψ s' w' ∧ ∃ md, Steps X.P (lone (Frame.enter X.P g L .deferred) (c :: cs) w) (lone { c with mode := md } cs w') ∧ (match r with
      | .ret _ u' => MR ψ (settleA u') md
      | .pan ch u' => MR ψ (raisedA u' ch) md) := by
  obtain ⟨e1, e2, e3, e4, e5⟩ := enterA_sound hB hl
  obtain ⟨ψ, w', m, k1, k2, k3, k4⟩ := hu B s r s' hr lm φ w _ (c :: cs) (c :: cs) h hm e1 (by rw [e2, e3]; exact .yes c cs hc) (by rw [e4]; intro hh; exact absurd rfl hh)
  refine ⟨ψ, w', k2, k3, ?_⟩
  cases r with
  | ret v u' =>
    simp only [Lands, e4] at k4
    obtain ⟨fr, cs1, V, fn, rfl, hu, h1, h2, h3, h4, h5, h6, h7⟩ := k4
    rw [e2] at hu h4
    cases hu with
    | @yes _ md _ _ hmd => exact ⟨Go.settle md, k1.trans (.one (step_going_returned h4 ⟨h1, h2, fn, h5, h6⟩)), hmd.settle⟩
  | pan ch u' =>
    obtain ⟨fr, cs1, k, fn, rfl, hu, h1, h2, h3, h4, h5, h6⟩ := k4
    rw [e2] at hu h4
    cases hu with
    | @yes _ md _ _ hmd => exact ⟨Go.raised md k, k1.trans (.one (step_going_panicked ⟨h1, h2, fn, h5⟩)), hmd.raised h6⟩
end
end
end Go.Proofs.YtifcganfcjildaaGreatDoor.E
