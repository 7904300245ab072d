/- Merged out of: E18, E19. -/
import Derived.Test.YtifcganfcjildaaGreatDoorJ9
/- Maps: a value looked up. -/
namespace Go.Proofs.YtifcganfcjildaaGreatDoor.E
open Go Go.RowKit
set_option linter.unusedVariables false
set_option linter.unusedSimpArgs false
set_option linter.unnecessarySimpa false
noncomputable section

section
variable {P : Program} {n0 : Nat} {w0 : World} {lm : Nat} {φ : Map} {s s' : HS} {w : World}
theorem mapOf_sound (h : Rel n0 w0 lm φ s w) {j : Nat} {es : Ents} {c : Nat} (hr : (mapOf j).run s = some ((es, c), s')) :
    Rel n0 w0 lm φ s' w ∧ s'.heap = s.heap ∧ s'.next = s.next ∧ s.heap.get j = some (.map es c) ∧ ∃ p E, φ j = some p ∧ w.heap[p.b]? = some (.map E c) ∧ ERs φ es E.toList := by
  obtain ⟨o, s1, h1, h2⟩ := Fr.bind_run hr
  obtain ⟨g1, g2, g3⟩ := Fr.get_run h1
  cases o with
  | map es' c' =>
    obtain ⟨he, rfl⟩ := Fr.ret_run h2
    obtain ⟨rfl, rfl⟩ := Prod.mk.inj he
    obtain ⟨p, b, q1, q2, q3, q4, q5⟩ := h.objs _ _ g1 rfl
    cases q3 with
    | @map _ E _ _ he => exact ⟨h.heap g2 g3, g2, g3, g1, p, E, q1, q2, he⟩
  | cells _ => cases h2
  | still _ => cases h2
  | sit _ _ => cases h2
  | mit _ _ _ _ => cases h2
  | _ => cases h2
theorem look_end {es : Ents} {E : Array MapEntry} {t kt e : TypeId} {k z r : AV} {K X : Value} {ok : Bool} (h : Rel n0 w0 lm φ s w) (hu : P.underlying t = some (.map kt e)) (hkv : keyV P kt k = true) (hz : zero P e = some z) (hk : VR φ k K) (he : ERs φ es E.toList)
    (hX : (X = .map none ∧ E = #[]) ∨ ∃ j c, X = .map (some j) ∧ (getObj j).run P w = .ok (.map E c) w)
    (hr : (match findA P kt k es 0 with
      | none => (Fr.fail : Fr AV)
      | some r => .ret (match ok, r with
        | true, some (_, v, _) => .tup [v, .bool true]
        | true, none => .tup [z, .bool false]
        | false, some (_, v, _) => v
        | false, none => z)).run s = some (r, s')) : Ans P n0 w0 lm φ s s' r (Instr.lookup t X K ok) w := by
  cases hf : findA P kt k es 0 with
  | none => rw [hf] at hr; cases hr
  | some q =>
    rw [hf] at hr
    obtain ⟨rfl, rfl⟩ := Fr.ret_run hr
    have hkd : ∃ d, P.underlying kt = some d := by
      unfold keyV at hkv
      cases hd : P.underlying kt with
      | none => rw [hd] at hkv; cases hkv
      | some d => exact ⟨d, rfl⟩
    obtain ⟨d, hd⟩ := hkd
    obtain ⟨R, r1, r2⟩ := find_sound (P := P) (w := w) hd hk he hf
    obtain ⟨zv, z1, z2⟩ := zero_sound (φ := φ) hz w
    have hck : ∀ em, (Instr.checkKey em 10000 kt K).run P w = .ok () w := fun em => check_key hk hkv em 9998
    cases q with
    | none =>
      obtain rfl : R = none := r2
      cases ok with
      | true =>
        refine Ans.pure h (V := .tuple #[zv, .bool false]) ?_ (.tup (.cons z2 (.cons (.bool _) .nil)))
        rcases hX with ⟨rfl, rfl⟩ | ⟨j0, c0, rfl, hg⟩
        · simp [Instr.lookup, run_underlying hu, hck, r1, z1]
        · simp [Instr.lookup, run_underlying hu, hck, hg, r1, z1]
      | false =>
        refine Ans.pure h (V := zv) ?_ z2
        rcases hX with ⟨rfl, rfl⟩ | ⟨j0, c0, rfl, hg⟩
        · simp [Instr.lookup, run_underlying hu, hck, r1, z1]
        · simp [Instr.lookup, run_underlying hu, hck, hg, r1, z1]
    | some q =>
      obtain ⟨j, v, b⟩ := q
      obtain ⟨V, rfl, hv⟩ := r2
      cases ok with
      | true =>
        refine Ans.pure h (V := .tuple #[V, .bool true]) ?_ (.tup (.cons hv (.cons (.bool _) .nil)))
        rcases hX with ⟨rfl, rfl⟩ | ⟨j0, c0, rfl, hg⟩
        · simp [Instr.lookup, run_underlying hu, hck, r1]
        · simp [Instr.lookup, run_underlying hu, hck, hg, r1]
      | false =>
        refine Ans.pure h (V := V) ?_ hv
        rcases hX with ⟨rfl, rfl⟩ | ⟨j0, c0, rfl, hg⟩
        · simp [Instr.lookup, run_underlying hu, hck, r1]
        · simp [Instr.lookup, run_underlying hu, hck, hg, r1]
end
end
end Go.Proofs.YtifcganfcjildaaGreatDoor.E

/- Maps: looked up as a whole; entries at a place. -/
namespace Go.Proofs.YtifcganfcjildaaGreatDoor.E
open Go Go.RowKit
set_option linter.unusedVariables false
set_option linter.unusedSimpArgs false
set_option linter.unnecessarySimpa false
noncomputable section

section
variable {P : Program} {n0 : Nat} {w0 : World} {lm : Nat} {φ : Map} {s s' : HS} {w : World}
theorem lookA_sound (h : Rel n0 w0 lm φ s w) {t : TypeId} {x k r : AV} {X K : Value} {ok : Bool} (hx : VR φ x X) (hk : VR φ k K) (hr : (lookA P t x k ok).run s = some (r, s')) : Ans P n0 w0 lm φ s s' r (Instr.lookup t X K ok) w := by
  unfold lookA at hr
  cases hu : P.underlying t with
  | none => rw [hu] at hr; cases hr
  | some d =>
    rw [hu] at hr
    cases d with
    | map kt e =>
      dsimp only at hr
      cases hkv : keyV P kt k with
      | false => rw [hkv] at hr; cases hr
      | true =>
        rw [hkv] at hr
        cases hz : zero P e with
        | none => rw [hz] at hr; cases hr
        | some z =>
          rw [hz] at hr
          obtain ⟨⟨es, c⟩, s1, h1, h2⟩ := Fr.bind_run hr
          cases hx with
          | nilm =>
            obtain ⟨he, rfl⟩ := Fr.ret_run h1
            obtain ⟨rfl, rfl⟩ := Prod.mk.inj he
            exact look_end (E := #[]) h hu hkv hz hk .nil (.inl ⟨rfl, rfl⟩) h2
          | map hp =>
            obtain ⟨r1, q1, q2, q3, p, E, q4, q5, q6⟩ := mapOf_sound h h1
            obtain rfl := Option.some.inj (q4.symm.trans hp)
            obtain ⟨ψ, w', V, a1, a2, a3, a4⟩ := look_end r1 hu hkv hz hk q6 (.inr ⟨p.b, c, rfl, by simp [getObj, Sem.run, q5]⟩) h2
            exact ⟨ψ, w', V, a1, by rw [← q2]; exact a2, a3, a4⟩
          | _ => cases h1
    | _ => cases hr
theorem ERs.length {φ : Map} : ∀ {es : Ents} {E : List MapEntry}, ERs φ es E → es.length = E.length
  | _, _, .nil => rfl
  | _, _, .cons _ _ t => by simp [t.length]
theorem ERs.get {φ : Map} : ∀ {es : Ents} {E : List MapEntry}, ERs φ es E → ∀ {i : Nat} {a v : AV} {b : Nat}, es[i]? = some (a, v, b) → ∃ A V, E[i]? = some ⟨A, V, b⟩ ∧ VR φ a A ∧ VR φ v V
  | _, _, .nil, i, a, v, b, h => by simp at h
  | _, _, .cons (x := x) (y := y) hk hv t, 0, a, v, b, h => by
    simp at h
    obtain ⟨rfl, rfl, rfl⟩ := h
    exact ⟨x, y, rfl, hk, hv⟩
  | _, _, .cons hk hv t, i + 1, a, v, b, h => by
    simp at h ⊢
    exact t.get h
theorem ERs.set {φ : Map} {k v : AV} {K V : Value} (hk : VR φ k K) (hv : VR φ v V) : ∀ {es : Ents} {E : List MapEntry}, ERs φ es E → ∀ {i : Nat} {a u : AV} {b : Nat}, es[i]? = some (a, u, b) → ERs φ (setNth es i k v b) (E.modify i fun e => { e with key := K, val := V })
  | _, _, .nil, i, a, u, b, h => by simp at h
  | _, _, .cons hk0 hv0 t, 0, a, u, b, h => by
    simp at h
    obtain ⟨rfl, rfl, rfl⟩ := h
    exact .cons hk hv t
  | _, _, .cons hk0 hv0 t, i + 1, a, u, b, h => by
    simp at h
    exact .cons hk0 hv0 (ERs.set hk hv t h)
theorem ERs.push {φ : Map} {k v : AV} {K V : Value} {b : Nat} (hk : VR φ k K) (hv : VR φ v V) : ∀ {es : Ents} {E : List MapEntry}, ERs φ es E → ERs φ (es ++ [(k, v, b)]) (E ++ [⟨K, V, b⟩])
  | _, _, .nil => .cons hk hv .nil
  | _, _, .cons a c t => .cons a c (ERs.push hk hv t)
theorem ERs.del {φ : Map} : ∀ {es : Ents} {E : List MapEntry}, ERs φ es E → ∀ i, ERs φ (delNth es i) (E.eraseIdx i)
  | _, _, .nil, i => by cases i <;> exact .nil
  | _, _, .cons a c t, 0 => t
  | _, _, .cons a c t, i + 1 => .cons a c (t.del i)
/-- The map's own entries, turned. -/
theorem map_set (h : Rel n0 w0 lm φ s w) {j : Nat} {es es' : Ents} {c c' : Nat} (h0 : s.heap.get j = some (.map es c)) {p : Pl} (hp : φ j = some p) {E' : Array MapEntry} (he : ERs φ es' E'.toList) {u : Unit} (hr : (Fr.set j (.map es' c')).run s = some (u, s')) :
    s'.next = s.next ∧ (setObj p.b (.map E' c')).run P w = .ok () (w.putObj p.b (.map E' c')) ∧ Rel n0 w0 lm φ s' (w.putObj p.b (.map E' c')) := by
  obtain ⟨k1, k2⟩ := h.set hr h0 rfl rfl hp (.map E' c') (.map he)
  obtain ⟨p', b, q1, q2, q3, q4, q5⟩ := h.objs _ _ h0 rfl
  obtain rfl := Option.some.inj (q1.symm.trans hp)
  refine ⟨k1, ?_, k2⟩
  cases q3 with
  | map _ => simp [setObj, Sem.run, q2, World.putObj]
end
end
end Go.Proofs.YtifcganfcjildaaGreatDoor.E

