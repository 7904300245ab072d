/- One operation of the machine over names is the model's: all of them. -/
import Derived.Test.YtifcganfcjildaaGreatDoorE30
namespace Go.Proofs.YtifcganfcjildaaGreatDoor.E
open Go Go.RowKit
set_option linter.unusedVariables false
set_option linter.unusedSimpArgs false
set_option linter.unnecessarySimpa false
noncomputable section

section
variable {X : Ctx} {n0 : Nat} {w0 : World} {lm : Nat} {φ : Map} {s s' : HS} {w : World} {N : Nat} {T : Temps} {a : Act} {o : Oper}
theorem makeMap_sound {P : Program} (h : Rel n0 w0 lm φ s w) {t : TypeId} {r : AV} (hr : ((Fr.new (.map [] 0)).bind fun h => .ret (AV.map h)).run s = some (r, s')) (hm : s'.next ≤ lm) : Ans P n0 w0 lm φ s s' r (Instr.makeMap t none) w := by
  obtain ⟨n, s1, h1, h2⟩ := Fr.bind_run hr
  obtain ⟨rfl, rfl⟩ := Fr.ret_run h2
  obtain ⟨rfl, hn, he, hR⟩ := h.new h1 hm (.map #[] 0) 0 0 rfl (.map .nil)
  refine ⟨_, _, .map (some w.heap.size), ?_, he, hR, .map (p := ⟨w.heap.size, 0, 0⟩) (by simp [Map.add])⟩
  simp [Instr.makeMap, run_newObj_alloc]
theorem alloc_sound {P : Program} (h : Rel n0 w0 lm φ s w) {t : TypeId} {z r : AV} (hz : zero P t = some z) (hr : (allocA P z).run s = some (r, s')) (hm : s'.next ≤ lm) : Ans P n0 w0 lm φ s s' r (Instr.alloc t true (.tuple #[])) w := by
  obtain ⟨v, h1, h2⟩ := zero_sound (φ := φ) hz w
  obtain ⟨ψ, x, h3, h4, h5, h6⟩ := allocA_sound (P := P) h h2 hr hm t
  exact ⟨ψ, _, _, by simp [Instr.alloc, Sem.run_bind, h1, h3, Result.andThen], h4, h5, h6⟩
theorem box_sound {P : Program} (h : Rel n0 w0 lm φ s w) {t : TypeId} {v r : AV} {V : Value} (hv : VR φ v V) (hr : (allocA P v).run s = some (r, s')) (hm : s'.next ≤ lm) : Ans P n0 w0 lm φ s s' r (Instr.box t V) w := by
  obtain ⟨ψ, x, h3, h4, h5, h6⟩ := allocA_sound (P := P) h hv hr hm t
  exact ⟨ψ, _, _, by simp [Instr.box, Sem.run_bind, h3, Result.andThen], h4, h5, h6⟩
theorem evO_bool (hf : FRel N φ T a) {x : Operand} {b : Bool} (e : evO T x = some (.bool b)) : a.eval x = .bool b := by
  have := evO_sound hf e
  generalize a.eval x = y at *
  cases this
  rfl
theorem evOp_sound (hX : XOk X n0 w0) (h : Rel n0 w0 lm φ s w) (hf : FRel N φ T a) {re : Re} (hr : (evOp X T o.op).run s = some (re, s')) (hm : s'.next ≤ lm) : OpOk X n0 w0 lm φ s s' w a o re := by
  obtain ⟨dst, op, ty, pos, after, guard⟩ := o
  dsimp only at hr
  cases op with
  | move x =>
    obtain ⟨v, e, rfl, rfl⟩ := vO_run hr
    exact OpOk.same h (by simp [execOp]) (evO_sound hf e)
  | assign x =>
    obtain ⟨v, e, rfl, rfl⟩ := vO_run hr
    exact OpOk.same h (by simp [execOp]) (evO_sound hf e)
  | pick c x y =>
    simp only [evOp, ev_pick] at hr
    split at hr
    · next e =>
      obtain ⟨v, e2, rfl, rfl⟩ := vO_run hr
      exact OpOk.same h (by simp [execOp, evO_bool hf e, asBool]) (evO_sound hf e2)
    · next e =>
      obtain ⟨v, e2, rfl, rfl⟩ := vO_run hr
      exact OpOk.same h (by simp [execOp, evO_bool hf e, asBool]) (evO_sound hf e2)
    · cases hr
  | alloc t =>
    simp only [evOp, ev_alloc] at hr
    split at hr
    · cases hr
    · next z hz =>
      obtain ⟨v, h1, rfl⟩ := vF_run hr
      exact (alloc_sound h hz h1 hm).elim fun ψ ⟨w', V, k1, k2⟩ => ⟨ψ, w', V, .inl (by simp [execOp, k1]), k2⟩
  | box t x =>
    obtain ⟨u, e, hr⟩ := with1_run hr
    obtain ⟨v, h1, rfl⟩ := vF_run hr
    exact OpOk.ans (box_sound (t := t) h (evO_sound hf e) h1 hm) fun V w' k => by simp [execOp, k]
  | build t ps =>
    simp only [evOp, ev_build] at hr
    split at hr
    · next z l hz hl =>
      obtain ⟨h1, h2⟩ := cond_run hr
      obtain ⟨v, e, rfl, rfl⟩ := vO_run h2
      exact OpOk.ofVal h (buildA_sound hz h1 (evPs_array hf hl) e) fun V w' k => by simp [execOp, k]
    · cases hr
  | buildSlice t n ps =>
    simp only [evOp, ev_buildSlice] at hr
    split at hr
    · next l hl =>
      obtain ⟨v, h1, rfl⟩ := vF_run hr
      exact OpOk.ans (buildSl_sound h (evPs_array hf hl) h1 hm) fun V w' k => by simp [execOp, k]
    · cases hr
  | insert t m k x =>
    obtain ⟨v1, v2, v3, e1, e2, e3, hr⟩ := with3_run hr
    obtain ⟨v, h1, rfl⟩ := vF_run hr
    obtain ⟨rfl, hn, w', k1, k2⟩ := updA_sound h (evO_sound hf e1) (evO_sound hf e2) (evO_sound hf e3) h1
    exact ⟨φ, w', undef, .inr ⟨by simp [execOp, k1], rfl⟩, by rw [hn]; exact Ext.refl _ _ _, k2, .undef _⟩
  | load t x =>
    obtain ⟨u, e, hr⟩ := with1_run hr
    obtain ⟨v, h1, rfl⟩ := vF_run hr
    obtain ⟨k1, k2, y, k3, k4⟩ := loadA_sound h (evO_sound hf e) h1
    exact ⟨φ, w, y, .inl (by simp [execOp, k3]), by rw [k2]; exact Ext.refl _ _ _, k1, k4⟩
  | store t x y =>
    obtain ⟨v1, v2, e1, e2, hr⟩ := with2_run hr
    obtain ⟨v, h1, rfl⟩ := vF_run hr
    obtain ⟨hn, rfl, w', k1, k2⟩ := storeA_sound h (evO_sound hf e1) (evO_sound hf e2) h1
    exact ⟨φ, w', undef, .inr ⟨by simp [execOp, k1], rfl⟩, by rw [hn]; exact Ext.refl _ _ _, k2, .undef _⟩
  | nilCheck x =>
    obtain ⟨u, e, hr⟩ := with1_run hr
    have hv := evO_sound hf e
    split at hr
    · obtain ⟨rfl, rfl⟩ := Fr.ret_run hr
      refine OpOk.same h ?_ hv
      generalize hy : a.eval x = y at *
      cases hv
      simp [execOp, hy]
    · obtain ⟨rfl, rfl⟩ := Fr.ret_run hr
      refine OpOk.same h ?_ hv
      generalize hy : a.eval x = y at *
      cases hv
      simp [execOp, hy]
    · cases hr
  | binOp op t x y ty =>
    obtain ⟨v1, v2, e1, e2, hr⟩ := with2_run hr
    obtain ⟨v, e, rfl, rfl⟩ := vO_run hr
    obtain ⟨z, k1, k2⟩ := binA_sound (w := w) e (evO_sound hf e1) (evO_sound hf e2)
    exact OpOk.same h (by
      simp only [Sem.run_bind] at k1
      cases hg : (eqGuard op t x y (a.eval x) (a.eval y)).run X.P w with
      | ok u w1 => rw [hg] at k1; simp only [Result.andThen] at k1; simp [execOp, hg, Result.andThen, k1]
      | halt u w1 => rw [hg] at k1; cases k1) k2
  | unOp op t x =>
    obtain ⟨u, e, hr⟩ := with1_run hr
    obtain ⟨v, e2, rfl, rfl⟩ := vO_run hr
    exact OpOk.ofVal h (unA_sound (evO_sound hf e) e2) fun V w' k => by simp [execOp, k]
  | convert p q x =>
    obtain ⟨u, e, hr⟩ := with1_run hr
    obtain ⟨v, h1, rfl⟩ := vF_run hr
    exact OpOk.ans (convA_sound h (evO_sound hf e) h1) fun V w' k => by simp [execOp, k]
  | makeInterface t x =>
    obtain ⟨u, e, hr⟩ := with1_run hr
    split at hr
    · cases hr
    · next d hd =>
      have hi : isIface d = false ∧ (Fr.ret (Re.val (.iface t u))).run s = some (re, s') := by
        cases hb : isIface d with
        | true => rw [hb] at hr; cases hr
        | false => rw [hb] at hr; exact ⟨rfl, hr⟩
      obtain ⟨rfl, rfl⟩ := Fr.ret_run hi.2
      exact OpOk.ofVal h (iface_sound hd (fun m hm => by rw [hm] at hi; cases hi.1) (evO_sound hf e)) fun V w' k => by simp [execOp, k]
  | makeFunc f x y =>
    simp only [evOp, ev_makeFunc] at hr
    split at hr
    · next l k e1 e2 =>
      obtain ⟨rfl, rfl⟩ := Fr.ret_run hr
      exact OpOk.same h (by simp [execOp, Instr.makeFunc]) (.fn (evOs_array hf e1) (evOs_array hf e2))
    · cases hr
  | makeMap t r =>
    simp only [evOp, ev_makeMap] at hr
    split at hr
    · obtain ⟨v, h1, rfl⟩ := vF_run hr
      exact OpOk.ans (makeMap_sound (t := t) h h1 hm) fun V w' k => by simp [execOp, k]
    · cases hr
  | makeSlice t x y =>
    obtain ⟨v1, v2, e1, e2, hr⟩ := with2_run hr
    obtain ⟨v, h1, rfl⟩ := vF_run hr
    exact OpOk.ans (makeSl_sound h (evO_sound hf e1) (evO_sound hf e2) h1 hm) fun V w' k => by simp [execOp, k]
  | slice t x lo hi mx =>
    obtain ⟨hmx, hr⟩ := cond_run hr
    obtain ⟨u, e, hr⟩ := with1_run hr
    split at hr
    · next hu =>
      obtain ⟨v, h1, rfl⟩ := vF_run hr
      exact OpOk.ans (sliceArr_sound h hf hu hmx (evO_sound hf e) h1) fun V w' k => by simp [execOp, k]
    · split at hr
      · next v e2 =>
        obtain ⟨rfl, rfl⟩ := Fr.ret_run hr
        obtain ⟨y, k1, k2⟩ := sliceA_sound hf (evO_sound hf e) hmx e2 w
        exact OpOk.same h (by simp [execOp, k1]) k2
      · obtain ⟨v, h1, rfl⟩ := vF_run hr
        exact OpOk.ans (sliceU_sound h hf (evO_sound hf e) hmx h1) fun V w' k => by simp [execOp, k]
  | fieldAddr p x f =>
    obtain ⟨u, e, hr⟩ := with1_run hr
    split at hr
    · next fs hh off hu =>
      split at hr
      · cases hr
      · next fd hfd =>
        split at hr
        · next n hn =>
          obtain ⟨rfl, rfl⟩ := Fr.ret_run hr
          exact OpOk.ofVal h (fieldAt_sound hu hfd hn (evO_sound hf e)) fun V w' k => by simp [execOp, k]
        · cases hr
    · cases hr
  | field p x f =>
    obtain ⟨u, e, hr⟩ := with1_run hr
    split at hr
    · next fs cs hu =>
      split at hr
      · cases hr
      · next fd hfd =>
        obtain ⟨v, e2, rfl, rfl⟩ := vO_run hr
        exact OpOk.ofVal h (field_sound hu hfd e2 (evO_sound hf e)) fun V w' k => by simp [execOp, k]
    · cases hr
  | indexAddr t x i =>
    obtain ⟨v1, v2, e1, e2, hr⟩ := with2_run hr
    split at hr
    · next e hh off len es cap kk n hu =>
      split at hr
      · cases hr
      · next sz hsz =>
        obtain ⟨hb, h2⟩ := cond_run hr
        obtain ⟨rfl, rfl⟩ := Fr.ret_run h2
        simp only [Bool.and_eq_true, decide_eq_true_eq] at hb
        have : sz = es := Nat.eq_of_beq_eq_true hb.2
        subst this
        have hi := evO_sound hf e2
        generalize hy : a.eval i = y at *
        cases hi
        exact OpOk.ofVal h (indexAt_slice (k := kk) hu hsz hb.1.1 hb.1.2 (evO_sound hf e1)) fun V w' k => by simp [execOp, hy, k]
    · next len e hh off kk n hu =>
      split at hr
      · cases hr
      · next sz hsz =>
        obtain ⟨hb, h2⟩ := cond_run hr
        obtain ⟨rfl, rfl⟩ := Fr.ret_run h2
        simp only [Bool.and_eq_true, decide_eq_true_eq] at hb
        have hi := evO_sound hf e2
        generalize hy : a.eval i = y at *
        cases hi
        exact OpOk.ofVal h (indexAt_array (k := kk) hu hsz hb.1 hb.2 (evO_sound hf e1)) fun V w' k => by simp [execOp, hy, k]
    · cases hr
  | index t x i =>
    obtain ⟨v1, v2, e1, e2, hr⟩ := with2_run hr
    split at hr
    · next q kk n hu =>
      obtain ⟨hb, h2⟩ := cond_run hr
      split at h2
      · cases h2
      · next c hc =>
        obtain ⟨rfl, rfl⟩ := Fr.ret_run h2
        have hi := evO_sound hf e2
        generalize hy : a.eval i = y at *
        cases hi
        exact OpOk.ofVal h (index_string (k := kk) hu (by simpa using hb) hc (evO_sound hf e1)) fun V w' k => by simp [execOp, hy, k]
    · next len e cs kk n hu =>
      split at hr
      · cases hr
      · next sz hsz =>
        obtain ⟨hb, h2⟩ := cond_run hr
        obtain ⟨v, e3, rfl, rfl⟩ := vO_run h2
        simp only [Bool.and_eq_true, decide_eq_true_eq] at hb
        have hi := evO_sound hf e2
        generalize hy : a.eval i = y at *
        cases hi
        exact OpOk.ofVal h (index_array (k := kk) hu hsz hb.1 hb.2 e3 (evO_sound hf e1)) fun V w' k => by simp [execOp, hy, k]
    · cases hr
  | lookup t x k ok =>
    obtain ⟨v1, v2, e1, e2, hr⟩ := with2_run hr
    obtain ⟨v, h1, rfl⟩ := vF_run hr
    exact OpOk.ans (lookA_sound h (evO_sound hf e1) (evO_sound hf e2) h1) fun V w' k => by simp [execOp, k]
  | mapUpdate t m k x =>
    obtain ⟨v1, v2, v3, e1, e2, e3, hr⟩ := with3_run hr
    obtain ⟨v, h1, rfl⟩ := vF_run hr
    obtain ⟨rfl, hn, w', k1, k2⟩ := updA_sound h (evO_sound hf e1) (evO_sound hf e2) (evO_sound hf e3) h1
    exact ⟨φ, w', undef, .inr ⟨by simp [execOp, k1], rfl⟩, by rw [hn]; exact Ext.refl _ _ _, k2, .undef _⟩
  | mapEntry t m k =>
    obtain ⟨v1, v2, e1, e2, hr⟩ := with2_run hr
    obtain ⟨v, h1, rfl⟩ := vF_run hr
    exact OpOk.ans (entA_sound h (evO_sound hf e1) (evO_sound hf e2) h1) fun V w' k => by simp [execOp, k]
  | entryStore t m k x =>
    obtain ⟨v1, v2, v3, e1, e2, e3, hr⟩ := with3_run hr
    obtain ⟨v, h1, rfl⟩ := vF_run hr
    obtain ⟨rfl, hn, w', k1, k2⟩ := entSetA_sound (P := X.P) (t := t) h (evO_sound hf e1) (evO_sound hf e2) (evO_sound hf e3) h1
    exact ⟨φ, w', undef, .inr ⟨by simp [execOp, k1], rfl⟩, by rw [hn]; exact Ext.refl _ _ _, k2, .undef _⟩
  | range t x =>
    obtain ⟨u, e, hr⟩ := with1_run hr
    obtain ⟨v, h1, rfl⟩ := vF_run hr
    exact OpOk.ans (rangeA_sound h (evO_sound hf e) h1 hm) fun V w' k => by simp [execOp, k]
  | next x str =>
    obtain ⟨u, e, hr⟩ := with1_run hr
    obtain ⟨v, h1, rfl⟩ := vF_run hr
    cases str with
    | true => exact OpOk.ans (nextStr_sound (ty := ty) h (evO_sound hf e) h1) fun V w' k => by simp [execOp, k]
    | false => exact OpOk.ans (nextMap_sound (ty := ty) h (evO_sound hf e) h1) fun V w' k => by simp [execOp, k]
  | typeAssert x xt asT ok =>
    obtain ⟨u, e, hr⟩ := with1_run hr
    obtain ⟨v, e2, rfl, rfl⟩ := vO_run hr
    exact OpOk.ofVal h (assertA_sound (xt := xt) (evO_sound hf e) e2) fun V w' k => by simp [execOp, k]
  | extract x i =>
    obtain ⟨u, e, hr⟩ := with1_run hr
    split at hr
    · obtain ⟨v, e2, rfl, rfl⟩ := vO_run hr
      exact OpOk.ofVal h (extract_sound (evO_sound hf e) e2) fun V w' k => by simp [execOp, k]
    · cases hr
  | panic x =>
    obtain ⟨u, e, hr⟩ := with1_run hr
    split at hr
    · next t v =>
      obtain ⟨rfl, rfl⟩ := Fr.ret_run hr
      have hv := evO_sound hf e
      generalize hy : a.eval x = y at *
      have hv' := hv
      cases hv' with
      | iface hw => exact ⟨_, by simp [execOp, Instr.panic, hy, goPanic, Sem.run_halt], rfl, hv⟩
    · cases hr
  | call c =>
    obtain ⟨callee, cargs, ats⟩ := c
    simp only [evOp, callA] at hr
    split at hr
    · cases hr
    · next args hargs =>
      have ha : VRs φ args (cargs.map a.eval).toList := evOs_array hf hargs
      split at hr
      · -- panic
        split at hr
        · next t v =>
          obtain ⟨rfl, rfl⟩ := Fr.ret_run hr
          generalize hL : cargs.map a.eval = L at *
          obtain ⟨L⟩ := L
          cases ha with
          | cons hv hn =>
            cases hn
            have hv' := hv
            cases hv' with
            | iface hw => exact ⟨_, by simp [execOp, resolve, invoke, builtin, Instr.panic, hL, goPanic, Sem.run_halt], rfl, hv⟩
        · cases hr
      · next b hb =>
        obtain ⟨v, s1, h1, h2⟩ := Fr.bind_run hr
        obtain ⟨rfl, rfl⟩ := Fr.ret_run h2
        obtain ⟨ψ, w', V, k1, k2, k3, k4⟩ := builtA_sound (ty := ty) (cs := cargs.map fun | .const _ => true | _ => false) h ha h1 hm
        exact ⟨ψ, w', V, .inl (by simp only [execOp, resolve, Sem.run_bind, Sem.run_pure, Result.andThen, invoke]; rw [Array.toArray_toList] at k1; exact k1), k2, k3, k4⟩
      · next f =>
        split at hr
        · next g first cap hfe =>
          have hfv := evO_sound hf hfe
          generalize hy : a.eval f = y at *
          cases hfv with
          | @fn _ _ _ A B q1 q2 =>
            have hL : VRs φ (first ++ args ++ cap) (A ++ cargs.map a.eval ++ B).toList := by
              simp only [Array.toList_append]; exact (q1.append ha).append q2
            split at hr
            · cases hr
            · next fn hfn =>
              split at hr
              · next bd hbd =>
                obtain ⟨rfl, rfl⟩ := Fr.ret_run hr
                refine ⟨_, ?_, rfl, hL⟩
                simp only [execOp, resolve, hy, Deferred.ofValue, Sem.run_bind, Sem.run_pure, Result.andThen, invoke]
                have hnn := hX.num g fn hfn; simp at hnn; simp [callFunc, hfn, hnn, hbd]
              · next hbd =>
                split at hr
                · cases hr
                · next e he =>
                  obtain ⟨v, s1, h1, h2⟩ := Fr.bind_run hr
                  obtain ⟨rfl, rfl⟩ := Fr.ret_run h2
                  obtain ⟨ψ, w', V, k1, k2⟩ := hX.ext g e he _ _ _ _ h1 lm φ w _ h hm hL
                  exact ⟨ψ, w', V, .inl (by simp only [execOp, resolve, hy, Deferred.ofValue, Sem.run_bind, Sem.run_pure, Result.andThen, invoke]; exact k1), k2⟩
        · next hh hfe =>
          obtain ⟨rfl, rfl⟩ := Fr.ret_run hr
          have hfv := evO_sound hf hfe
          generalize hy : a.eval f = y at *
          cases hfv with
          | @yld _ p hp =>
            refine ⟨p, cargs.map a.eval, ?_, rfl, hp, ha⟩
            simp only [execOp, resolve, hy, Deferred.ofValue, Sem.run_bind, Sem.run_pure, Result.andThen, invoke]
            simp
        · cases hr
      · cases hr
  | _ => cases hr
end
end
end Go.Proofs.YtifcganfcjildaaGreatDoor.E
