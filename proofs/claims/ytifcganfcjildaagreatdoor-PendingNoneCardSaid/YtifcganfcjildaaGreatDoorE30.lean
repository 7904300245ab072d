/- A walk's next step along a map, where there is no choice. -/
import Derived.Test.YtifcganfcjildaaGreatDoorJ1
namespace Go.Proofs.YtifcganfcjildaaGreatDoor.E
open Go Go.RowKit
set_option linter.unusedVariables false
set_option linter.unusedSimpArgs false
set_option linter.unnecessarySimpa false
noncomputable section

theorem ERs.filter {φ : Map} (p : Nat → Bool) : ∀ {es : Ents} {E : List MapEntry}, ERs φ es E → ERs φ (es.filter fun e => p e.2.2) (E.filter fun e => p e.born)
  | _, _, .nil => .nil
  | _, _, .cons (n := n) hk hv t => by
    by_cases c : p n = true
    · rw [List.filter_cons_of_pos (by simpa using c), List.filter_cons_of_pos (by simpa using c)]; exact .cons hk hv (t.filter p)
    · rw [List.filter_cons_of_neg (by simpa using c), List.filter_cons_of_neg (by simpa using c)]; exact t.filter p
theorem ERs.all {φ : Map} (p : Nat → Bool) : ∀ {es : Ents} {E : List MapEntry}, ERs φ es E → (es.all fun e => p e.2.2) = E.all fun e => p e.born
  | _, _, .nil => rfl
  | _, _, .cons (n := n) hk hv t => by simp [t.all p]
theorem ERs.isEmpty {φ : Map} : ∀ {es : Ents} {E : List MapEntry}, ERs φ es E → es.isEmpty = E.isEmpty
  | _, _, .nil => rfl
  | _, _, .cons _ _ _ => rfl
section
variable {P : Program} {n0 : Nat} {w0 : World} {lm : Nat} {φ : Map} {s s' : HS} {w : World}
theorem run_getObj {r : Nat} {o : Obj} (h : w.heap[r]? = some o) (hc : ∀ c e f, o ≠ .cells c e f) : (getObj r).run P w = .ok o w := by
  simp only [getObj, Sem.run, h]
theorem nextMap_sound (h : Rel n0 w0 lm φ s w) {x r : AV} {X : Value} {ty : TypeId} (hx : VR φ x X) (hr : (nextA x false).run s = some (r, s')) : Ans P n0 w0 lm φ s s' r (Instr.next X false ty) w := by
  unfold nextA at hr
  split at hr
  · exact absurd ‹false = true› (by decide)
  · next hh _ =>
    cases hx with
    | @ptr _ _ p hp =>
      obtain ⟨o, s1, h1, h2⟩ := Fr.bind_run hr
      obtain ⟨g1, g2, g3⟩ := Fr.get_run h1
      cases o with
      | mit m since seen last =>
        obtain ⟨p', b, q1, q2, q3, q4, q5⟩ := h.objs _ _ g1 rfl
        obtain rfl := Option.some.inj (q1.symm.trans hp)
        cases q3 with
        | @mit0 _ _ sn _ hd =>
          obtain ⟨rfl, rfl⟩ := Fr.ret_run h2
          have hg := run_getObj (P := P) q2 (by simp)
          exact ⟨φ, w, .tuple #[.bool false], by simp [Instr.next, hd, hg], by rw [g3]; exact Ext.refl _ _ _, h.heap g2 g3, .tup (.cons (.bool _) .nil)⟩
        | @mit _ _ hm sn _ q hd hq =>
          have hg := run_getObj (P := P) q2 (by simp)
          obtain ⟨⟨es, c⟩, s2, k1, k2⟩ := Fr.bind_run h2
          obtain ⟨m1, m2, m3, m4, pm, E, e1, e2, e3⟩ := mapOf_sound (h.heap g2 g3) k1
          obtain rfl := Option.some.inj (e1.symm.trans hq)
          have hgm := run_getObj (P := P) e2 (by simp)
          have hall : (es.all fun e => Nat.ble last e.2.2) = E.all (fun e => decide (e.born ≥ last)) := by
            rw [e3.all (fun n => Nat.ble last n)]
            rw [← Array.all_toList]
            congr 1
            funext e
            rw [Bool.eq_iff_iff]; simp
          have hemp : es.isEmpty = E.isEmpty := by rw [e3.isEmpty]; cases E with | mk l => cases l <;> rfl
          cases hc : (!sn.toList.isEmpty && !es.isEmpty && es.all fun e => Nat.ble last e.2.2) with
          | true => simp only [hc] at k2; cases k2
          | false =>
            simp only [hc] at k2
            have hguard : (!sn.isEmpty && !E.isEmpty && E.all (fun e => decide (e.born ≥ last))) = false := by
              rw [← hall, ← hemp]
              rw [← hc]
              have : sn.isEmpty = sn.toList.isEmpty := by cases sn with | mk l => cases l <;> rfl
              rw [this]
            have hf := e3.filter fun n => !sn.toList.contains n
            have hfE : (E.filter fun e => !sn.contains e.born).toList = E.toList.filter fun e => !sn.toList.contains e.born := by
              rw [Array.toList_filter]; congr 1; funext e; rw [Array.contains_toList]
            generalize hes : (es.filter fun e => !sn.toList.contains e.2.2) = fs at k2 hf
            rw [← hfE] at hf
            generalize hE : (E.filter fun e => !sn.contains e.born) = F at hf
            have hguard' : (!sn.isEmpty && !E.isEmpty && E.all (fun e => decide (last ≤ e.born))) = false := hguard
            cases fs with
            | nil =>
              obtain ⟨rfl, rfl⟩ := Fr.ret_run k2
              have hF : F = #[] := by cases F with | mk l => cases hf; rfl
              have hE' : (E.filter fun e => !sn.contains e.born) = #[] := hE.trans hF
              refine ⟨φ, w, .tuple #[.bool false], ?_, by rw [m3, g3]; exact Ext.refl _ _ _, m1, .tup (.cons (.bool _) .nil)⟩
              simp only [Instr.next, hd, hg, hgm, Sem.run_bind, Result.andThen, hguard', hE']
              simp [choose, Sem.run, Question.forced]
            | cons f fs =>
              cases fs with
              | cons _ _ => obtain ⟨k, v, b⟩ := f; cases k2
              | nil =>
                obtain ⟨k, v, b⟩ := f
                have hF : ∃ K V, F = #[⟨K, V, b⟩] ∧ VR φ k K ∧ VR φ v V := by
                  cases F with
                  | mk l =>
                    cases hf with
                    | cons hk hv t => cases t; exact ⟨_, _, rfl, hk, hv⟩
                obtain ⟨K, V, hF, hk, hv⟩ := hF
                have hE' : (E.filter fun e => !sn.contains e.born) = #[⟨K, V, b⟩] := hE.trans hF
                dsimp only at k2
                obtain ⟨hb, k3⟩ := cond_run k2
                have hb' : b < since := by rwa [Nat.blt_eq] at hb
                obtain ⟨u, s3, k4, k5⟩ := Fr.bind_run k3
                obtain ⟨rfl, rfl⟩ := Fr.ret_run k5
                have hms : sn.toList ++ [b] = (sn.push b).toList := by simp
                rw [hms] at k4
                obtain ⟨a1, a2⟩ := m1.set k4 (by rw [m2, g2]; exact g1) rfl rfl hp (.mapIter (some pm.b) since (sn.push b) c) (.mit hd hq)
                have hset : (setObj p'.b (.mapIter (some pm.b) since (sn.push b) c)).run P w = .ok () (w.putObj p'.b (.mapIter (some pm.b) since (sn.push b) c)) := by simp [setObj, Sem.run, q2, World.putObj]
                refine ⟨φ, _, .tuple #[.bool true, K, V], ?_, by rw [a1, m3, g3]; exact Ext.refl _ _ _, a2, .tup (.cons (.bool _) (.cons hk (.cons hv .nil)))⟩
                simp only [Instr.next, hd, hg, hgm, Sem.run_bind, Result.andThen, hguard', hE']
                simp [choose, Sem.run, Question.forced, hb', hset]
      | _ => cases h2
  · cases hr
theorem sliceU_sound (h : Rel n0 w0 lm φ s w) {N : Nat} {T : Temps} {a : Act} (hf : FRel N φ T a) {t : TypeId} {x r : AV} {X : Value} {lo hi mx : Option Operand} (hx : VR φ x X) (hmx : maxed hi mx = true) (hr : (sliceU P T t x lo hi mx).run s = some (r, s')) :
    Ans P n0 w0 lm φ s s' r (Instr.sliceAt t X (lo.map a.eval) (hi.map a.eval) (mx.map a.eval)) w := by
  unfold sliceU at hr
  split at hr
  · next e b off len es hu =>
    split at hr
    · cases hr
    · next n hz =>
      obtain ⟨hb, hr⟩ := cond_run hr
      rw [Bool.and_eq_true] at hb
      have := Nat.eq_of_beq_eq_true hb.1
      subst this
      have hes : 0 < n := Nat.le_of_ble_eq_true hb.2
      obtain ⟨cs, s1, k1, k2⟩ := Fr.bind_run hr
      obtain ⟨r1, g1, g2, p', C, e0, hc⟩ := cellsOf_sound h k1
      obtain ⟨hb3, k2⟩ := cond_run k2
      have hlen := Nat.le_of_ble_eq_true hb3
      cases hx with
      | @sl _ _ _ _ c _ p hp hcap hl hn hfull =>
        obtain rfl := Option.some.inj (hc.at_.symm.trans hp)
        have hfl := hfull rfl
        have hft := hc.fits
        have hmc : (cs.length - off) / n ≤ c := by
          have h1 : (cs.length - off) / n * n ≤ cs.length - off := Nat.div_mul_le_self _ _
          have h2 : (cs.length - off) / n * n ≤ c * n := by omega
          exact Nat.le_of_mul_le_mul_right h2 hes
        generalize (cs.length - off) / n = m at k2 hmc
        split at k2
        · cases k2
        · next h' e1 =>
          split at k2
          · cases k2
          · next l e2 =>
            obtain ⟨hlt, k2⟩ := cond_run k2
            have hl2 : l < h' := Nat.le_of_ble_eq_true hlt
            obtain ⟨rfl, rfl⟩ := Fr.ret_run k2
            obtain ⟨q1, q2, q3, q4, q5, q6⟩ := bounds_sound (P := P) hf (isS := true) (len := len) (cap := m) (cap' := c) (m := m) (mx := none) hmc hmx rfl e1 e2 (fun _ _ => trivial) w
            have hh : h' ≤ c := by
              cases hi with
              | some y => have := q2 rfl; omega
              | none => rw [q6 rfl]; exact hl
            have hm : (if (none : Option Operand).isSome then m else c) = c := rfl
            rw [hm] at q1
            refine ⟨φ, w, .slice (if c = l then some ⟨p'.b, p'.d + off, none⟩ else some ⟨p'.b, p'.d + off + l * n, none⟩) (h' - l) (c - l), ?_, by rw [g2]; exact Ext.refl _ _ _, r1, ?_⟩
            · simp only [Instr.sliceAt, Sem.run_bind, run_underlying hu, Result.andThen_ok, Instr.slice, q1, run_sz hz, Sem.run_pure, Option.map_some, add_eq]
            · have hmul2 : l * n + (c - l) * n = c * n := by rw [← Nat.add_mul]; congr 1; omega
              rw [if_neg (by omega)]
              have := VR.sl (φ := φ) (h := b) (off := off + l * n) (len := h' - l) (es := n) (c := c - l) (cap := none) hp (fun k hk => by cases hk) (by omega) (by omega) (fun _ => by omega)
              simpa [Nat.add_assoc] using this
  · cases hr
end
end
end Go.Proofs.YtifcganfcjildaaGreatDoor.E
