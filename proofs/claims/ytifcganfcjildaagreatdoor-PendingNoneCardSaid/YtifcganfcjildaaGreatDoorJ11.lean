/- Merged out of: E22, E23, E24. -/
import Derived.Test.YtifcganfcjildaaGreatDoorJ7
/- Maps: an entry and its stamp; a key taken out. -/
namespace Go.Proofs.YtifcganfcjildaaGreatDoor.E
open Go Go.RowKit
set_option linter.unusedVariables false
set_option linter.unusedSimpArgs false
set_option linter.unnecessarySimpa false
noncomputable section

section
variable {P : Program} {n0 : Nat} {w0 : World} {lm : Nat} {φ : Map} {s s' : HS} {w : World}
theorem ERs.setKey {φ : Map} {k : AV} {K : Value} (hk : VR φ k K) : ∀ {es : Ents} {E : List MapEntry}, ERs φ es E → ∀ {i : Nat} {a u : AV} {b : Nat}, es[i]? = some (a, u, b) → ERs φ (setNth es i k u b) (E.modify i fun e => { e with key := K })
  | _, _, .nil, i, a, u, b, h => by simp at h
  | _, _, .cons hk0 hv0 t, 0, a, u, b, h => by
    simp at h
    obtain ⟨rfl, rfl, rfl⟩ := h
    exact .cons hk hv0 t
  | _, _, .cons hk0 hv0 t, i + 1, a, u, b, h => by
    simp at h
    exact .cons hk0 hv0 (ERs.setKey hk t h)
theorem entA_sound (h : Rel n0 w0 lm φ s w) {t : TypeId} {m k r : AV} {X K : Value} (hx : VR φ m X) (hk : VR φ k K) (hr : (entA P t m k).run s = some (r, s')) : Ans P n0 w0 lm φ s s' r (Instr.mapEntry t X K) w := by
  unfold entA at hr
  cases hu : P.underlying t with
  | none => rw [hu] at hr; cases hr
  | some d =>
    rw [hu] at hr
    cases d with
    | map kt e =>
      cases hx with
      | map hp =>
        dsimp only at hr
        cases hkv : keyV P kt k with
        | false => rw [hkv] at hr; cases hr
        | true =>
        rw [hkv] at hr
        cases hz : zero P e with
        | none => rw [hz] at hr; cases hr
        | some z =>
        rw [hz] at hr
        obtain ⟨zv, z1, z2⟩ := zero_sound (φ := φ) hz w
        obtain ⟨⟨es, c⟩, s1, h1, h2⟩ := Fr.bind_run hr
        obtain ⟨r1, q1, q2, q3, p, E, q4, q5, q6⟩ := mapOf_sound h h1
        obtain rfl := Option.some.inj (q4.symm.trans hp)
        dsimp only at h2
        obtain ⟨d, hd⟩ := keyV_under hkv
        have hck : ∀ em, (Instr.checkKey em 10000 kt K).run P w = .ok () w := fun em => check_key hk hkv em 9998
        have hg : (getObj p.b).run P w = .ok (.map E c) w := by simp [getObj, Sem.run, q5]
        cases hf : findA P kt k es 0 with
        | none => rw [hf] at h2; cases h2
        | some q =>
          rw [hf] at h2
          obtain ⟨R, f1, f2⟩ := find_sound (P := P) (w := w) hd hk q6 hf
          cases q with
          | none =>
            obtain rfl : R = none := f2
            obtain ⟨u, s2, k1, k2⟩ := Fr.bind_run h2
            obtain ⟨rfl, rfl⟩ := Fr.ret_run k2
            obtain ⟨a1, a2, a3⟩ := map_set (P := P) (E' := E.push { key := K, val := zv, born := c }) r1 (by rw [q1]; exact q3) q4 (by rw [Array.toList_push]; exact q6.push hk z2) k1
            exact ⟨φ, _, .tuple #[zv, .int .i64 c], by simp [Instr.mapEntry, run_underlying hu, hg, hck, f1, z1, a2, goInt], by rw [a1, q2]; exact Ext.refl _ _ _, a3, .tup (.cons z2 (.cons (.int _ _) .nil))⟩
          | some q =>
            obtain ⟨i, v0, b0⟩ := q
            obtain ⟨V0, rfl, f3⟩ := f2
            dsimp only at h2
            cases hes : es[i]? with
            | none => rw [hes] at h2; cases h2
            | some y =>
              obtain ⟨a, u0, b⟩ := y
              rw [hes] at h2
              obtain ⟨hsame, h3⟩ := cond_run h2
              obtain rfl := sameAV_eq hsame
              obtain ⟨A, U, g1, g2, g3⟩ := q6.get hes
              obtain ⟨u, s2, k1, k2⟩ := Fr.bind_run h3
              obtain ⟨rfl, rfl⟩ := Fr.ret_run k2
              obtain ⟨R, w1, y1, y2, y3⟩ := key_stays (P := P) hk g2 w
              have hold : ((E[i]?.map (·.key)).getD K) = A := by rw [← Array.getElem?_toList, g1]; rfl
              have hborn : ((E[i]?.map (fun x => (x.born : Int))).getD 0) = (b : Int) := by rw [← Array.getElem?_toList, g1]; rfl
              have r1' : Rel n0 w0 lm φ s1 w1 := by
                rcases y3 with rfl | rfl
                · exact r1
                · exact r1.drew
              obtain ⟨a1, a2, a3⟩ := map_set (P := P) (E' := E.modify i fun e => { e with key := R }) r1' (by rw [q1]; exact q3) q4 (by rw [Array.toList_modify]; exact q6.setKey y2 hes) k1
              have hVU : VR φ u0 V0 := by
                have hfi : ∀ {es : Ents} {j i0 : Nat} {v1 : AV} {b1 : Nat}, findA P kt k es i0 = some (some (j, v1, b1)) → i0 ≤ j ∧ ∃ a1, es[j - i0]? = some (a1, v1, b1) := by
                  intro es
                  induction es with
                  | nil => intro j i0 v1 b1 hh; cases hh
                  | cons x es ih =>
                    intro j i0 v1 b1 hh
                    obtain ⟨xa, xv, xb⟩ := x
                    unfold findA at hh
                    cases he : eqA P Op.maxDepth kt k xa with
                    | none => rw [he] at hh; cases hh
                    | some bb =>
                      rw [he] at hh
                      cases bb with
                      | true =>
                        have hh := Option.some.inj (Option.some.inj hh)
                        obtain ⟨rfl, hh2⟩ := Prod.mk.inj hh
                        obtain ⟨rfl, rfl⟩ := Prod.mk.inj hh2
                        exact ⟨Nat.le_refl _, xa, by simp⟩
                      | false =>
                        obtain ⟨c1, a1, c2⟩ := ih hh
                        refine ⟨by omega, a1, ?_⟩
                        rw [show j - i0 = (j - (i0 + 1)) + 1 by omega]
                        simpa using c2
                obtain ⟨-, a1, e1⟩ := hfi hf
                rw [Nat.sub_zero, hes] at e1
                have e2 := Option.some.inj e1
                obtain ⟨-, e3⟩ := Prod.mk.inj e2
                obtain ⟨rfl, -⟩ := Prod.mk.inj e3
                exact f3
              exact ⟨φ, _, .tuple #[V0, .int .i64 b], by simp [Instr.mapEntry, run_underlying hu, hg, hck, f1, hold, hborn, y1, a2, goInt], by rw [a1, q2]; exact Ext.refl _ _ _, a3, .tup (.cons hVU (.cons (.int _ _) .nil))⟩
      | _ => cases hr
    | _ => cases hr
end
end
end Go.Proofs.YtifcganfcjildaaGreatDoor.E

/- Maps: a value laid by its stamp; a key taken out. -/
namespace Go.Proofs.YtifcganfcjildaaGreatDoor.E
open Go Go.RowKit
set_option linter.unusedVariables false
set_option linter.unusedSimpArgs false
set_option linter.unnecessarySimpa false
noncomputable section

section
variable {P : Program} {n0 : Nat} {w0 : World} {lm : Nat} {φ : Map} {s s' : HS} {w : World}
theorem put_born {v : AV} {V : Value} (hv : VR φ v V) {n : Nat} : ∀ {es es' : Ents} {E : List MapEntry}, ERs φ es E → putBorn n v es = some es' → ∃ i, E.findIdx? (fun e => ((e.born : Nat) : Int) == (n : Int)) = some i ∧ ERs φ es' (E.modify i fun e => { e with val := V })
  | [], es', _, .nil, h => by cases h
  | (k, u, b) :: es, es', _ :: E, .cons (x := K) (y := U) hk hu t, h => by
    unfold putBorn at h
    cases hb : Nat.beq b n with
    | true =>
      rw [hb] at h
      obtain rfl := Option.some.inj h
      have := Nat.eq_of_beq_eq_true hb
      subst this
      exact ⟨0, by simp [List.findIdx?_cons], .cons hk hv t⟩
    | false =>
      rw [hb] at h
      dsimp only at h
      cases hp : putBorn n v es with
      | none => rw [hp] at h; cases h
      | some l =>
        rw [hp] at h
        obtain rfl := Option.some.inj h
        obtain ⟨i, i1, i2⟩ := put_born hv t hp
        have hne : ¬ b = n := fun he => by subst he; simp at hb
        have hne2 : ¬ (b : Int) = (n : Int) := by omega
        exact ⟨i + 1, by simp [List.findIdx?_cons, hne2, i1], .cons hk hu i2⟩
theorem entSetA_sound (h : Rel n0 w0 lm φ s w) {t : TypeId} {m x v r : AV} {X S V : Value} (hx : VR φ m X) (hs : VR φ x S) (hv : VR φ v V) (hr : (entSetA m x v).run s = some (r, s')) :
    r = .undef ∧ s'.next = s.next ∧ ∃ w', (Instr.entryStore t X S V).run P w = .ok () w' ∧ Rel n0 w0 lm φ s' w' := by
  unfold entSetA at hr
  cases hx with
  | map hp =>
    cases hs with
    | int k n =>
      obtain ⟨h0, hr2⟩ := cond_run hr
      have h0 := of_decide_eq_true h0
      obtain ⟨⟨es, c⟩, s1, h1, h2⟩ := Fr.bind_run hr2
      obtain ⟨r1, q1, q2, q3, p, E, q4, q5, q6⟩ := mapOf_sound h h1
      obtain rfl := Option.some.inj (q4.symm.trans hp)
      dsimp only at h2
      cases hf : putBorn n.toNat v es with
      | none => rw [hf] at h2; cases h2
      | some es' =>
        rw [hf] at h2
        obtain ⟨u, s2, k1, k2⟩ := Fr.bind_run h2
        obtain ⟨rfl, rfl⟩ := Fr.ret_run k2
        obtain ⟨i, i1, i2⟩ := put_born hv q6 hf
        have hg : (getObj p.b).run P w = .ok (.map E c) w := by simp [getObj, Sem.run, q5]
        obtain ⟨a1, a2, a3⟩ := map_set (P := P) (E' := E.modify i fun e => { e with val := V }) r1 (by rw [q1]; exact q3) q4 (by rw [Array.toList_modify]; exact i2) k1
        have hidx : E.findIdx? (fun e => (e.born : Int) == n) = some i := by
          rw [← Array.toArray_toList (xs := E), List.findIdx?_toArray]
          rw [Int.toNat_of_nonneg h0] at i1
          exact i1
        exact ⟨rfl, by rw [a1, q2], _, by simp [Instr.entryStore, hg, asInt, asIntOf, hidx, a2], a3⟩
    | _ => cases hr
  | _ => cases hr
end
end
end Go.Proofs.YtifcganfcjildaaGreatDoor.E

/- Maps: a key taken out. -/
namespace Go.Proofs.YtifcganfcjildaaGreatDoor.E
open Go Go.RowKit
set_option linter.unusedVariables false
set_option linter.unusedSimpArgs false
set_option linter.unnecessarySimpa false
noncomputable section

section
variable {P : Program} {n0 : Nat} {w0 : World} {lm : Nat} {φ : Map} {s s' : HS} {w : World}
theorem erase_list {α : Type} (E : Array α) (i : Nat) : (E.eraseIdxIfInBounds i).toList = E.toList.eraseIdx i := by
  unfold Array.eraseIdxIfInBounds
  split
  · simp
  · next h =>
    rw [List.eraseIdx_of_length_le]
    simpa using h
theorem delA_sound (h : Rel n0 w0 lm φ s w) {ts : Array TypeId} {t ty : TypeId} {m k r : AV} {X K : Value} (ht : ts[0]? = some t) (hx : VR φ m X) (hk : VR φ k K) (hr : (delA P t m k).run s = some (r, s')) :
    s'.next = s.next ∧ ∃ w', (Builtin.delete_ ts ty #[X, K]).run P w = .ok (.tuple #[]) w' ∧ Rel n0 w0 lm φ s' w' := by
  unfold delA at hr
  cases hu : P.underlying t with
  | none => rw [hu] at hr; cases hr
  | some d =>
    rw [hu] at hr
    cases d with
    | map kt e =>
      cases hx with
      | map hp =>
        obtain ⟨hkv, hr2⟩ := cond_run hr
        obtain ⟨⟨es, c⟩, s1, h1, h2⟩ := Fr.bind_run hr2
        obtain ⟨r1, q1, q2, q3, p, E, q4, q5, q6⟩ := mapOf_sound h h1
        obtain rfl := Option.some.inj (q4.symm.trans hp)
        dsimp only at h2
        obtain ⟨d, hd⟩ := keyV_under hkv
        have hck : ∀ em, (Instr.checkKey em 10000 kt K).run P w = .ok () w := fun em => check_key hk hkv em 9998
        have hg : (getObj p.b).run P w = .ok (.map E c) w := by simp [getObj, Sem.run, q5]
        cases hf : findA P kt k es 0 with
        | none => rw [hf] at h2; cases h2
        | some q =>
          rw [hf] at h2
          obtain ⟨R, f1, f2⟩ := find_sound (P := P) (w := w) hd hk q6 hf
          cases q with
          | none =>
            obtain rfl : R = none := f2
            obtain ⟨rfl, rfl⟩ := Fr.ret_run h2
            have hset : (setObj p.b (.map E c)).run P w = .ok () (w.putObj p.b (.map E c)) := by simp [setObj, Sem.run, q5, World.putObj]
            have hsame : w.putObj p.b (.map E c) = w := by
              unfold World.putObj
              have hlt : p.b < w.heap.size := (Array.getElem?_eq_some_iff.1 q5).1
              have : w.heap.setIfInBounds p.b (.map E c) = w.heap := by
                apply Array.ext_getElem?
                intro i
                by_cases ci : p.b = i
                · subst ci; rw [Array.getElem?_setIfInBounds_self_of_lt hlt, q5]
                · rw [Array.getElem?_setIfInBounds_ne ci]
              rw [this]
            rw [hsame] at hset
            exact ⟨q2, w, by simp [Builtin.delete_, ht, run_underlying hu, hg, hck, f1, hset], r1⟩
          | some q =>
            obtain ⟨i, v0, b0⟩ := q
            obtain ⟨V0, rfl, f3⟩ := f2
            obtain ⟨u, s2, k1, k2⟩ := Fr.bind_run h2
            obtain ⟨rfl, rfl⟩ := Fr.ret_run k2
            obtain ⟨a1, a2, a3⟩ := map_set (P := P) (E' := E.eraseIdxIfInBounds i) r1 (by rw [q1]; exact q3) q4 (by rw [erase_list]; exact q6.del i) k1
            exact ⟨by rw [a1, q2], _, by simp [Builtin.delete_, ht, run_underlying hu, hg, hck, f1, a2], a3⟩
      | _ => cases hr
    | _ => cases hr
end
end
end Go.Proofs.YtifcganfcjildaaGreatDoor.E

