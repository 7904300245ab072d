/- An operation at a frame, its calls and all. -/
import Derived.Test.YtifcganfcjildaaGreatDoorE33
namespace Go.Proofs.YtifcganfcjildaaGreatDoor.E
open Go Go.RowKit
set_option linter.unusedVariables false
set_option linter.unusedSimpArgs false
set_option linter.unnecessarySimpa false
noncomputable section

theorem frame_eval (fr : Frame) : fr.eval = (⟨fr.tmps, []⟩ : Act).eval := by funext x; cases x <;> rfl
theorem TR.put {N : Nat} {φ : Map} {T T' : Temps} {tm : Array Value} (hs : tm.size = N) (hT : ∀ t v, T.get t = some v → t < N ∧ VR φ v (tm.getD t undef)) {d : Tmp} {v : AV} {V : Value} (hv : VR φ v V) (hp : putT N T (some d) v = some T') :
    ∀ t v, T'.get t = some v → t < N ∧ VR φ v ((tm.setIfInBounds d V).getD t undef) :=
  (FRel.put (φ := φ) (tm := tm) (T := T) ⟨hs, hT⟩ hv hp).at_
theorem parT_sound {N : Nat} {φ : Map} : ∀ {ps : List Tmp} {l : List AV} {L : List Value} {T T' : Temps} {tm : Array Value}, parT N T ps l = some T' → VRs φ l L → tm.size = N → (∀ t v, T.get t = some v → t < N ∧ VR φ v (tm.getD t undef)) →
    ps.length = L.length ∧ ((ps.zip L).foldl (fun tmps (t, a) => tmps.setIfInBounds t a) tm).size = N ∧ ∀ t v, T'.get t = some v → t < N ∧ VR φ v (((ps.zip L).foldl (fun tmps (t, a) => tmps.setIfInBounds t a) tm).getD t undef)
  | [], [], _, T, T', tm, h, .nil, hs, hT => by obtain rfl := Option.some.inj h; exact ⟨rfl, hs, hT⟩
  | [], _ :: _, _, _, _, _, h, _, _, _ => by cases h
  | _ :: _, [], _, _, _, _, h, _, _, _ => by cases h
  | p :: ps, v :: l, _, T, T', tm, h, .cons (x := x) (k := k) hv hl, hs, hT => by
    unfold parT at h
    split at h
    · cases h
    · next T1 h1 =>
      have := parT_sound h hl (tm := tm.setIfInBounds p x) (by simpa using hs) (TR.put hs hT hv h1)
      simpa using this
section
variable {X : Ctx} {n0 : Nat} {w0 : World} {rec : AF → Fr Fin} {lm : Nat} {φ : Map} {s s' : HS} {w : World}
theorem roundA_sound (h : Rel n0 w0 lm φ s w) {j : Nat} {args : List AV} {L : Array Value} {p : Pl} {A : AF} (hr : (roundA j args).run s = some (A, s')) (hp : φ j = some p) (hl : VRs φ args L.toList) :
    Rel n0 w0 lm φ s' w ∧ s'.next = s.next ∧ A.dfd = false ∧ A.up = .run ∧ A.round = some j ∧ ∃ f tm assign body, (Instr.yield p.b L).run X.P w = .ok (.round p.b f tm assign body) w ∧ FrR φ A (Frame.round p.b f tm assign body .normal) := by
  obtain ⟨o, s1, h1, h2⟩ := Fr.bind_run hr
  obtain ⟨g1, g2, g3⟩ := Fr.get_run h1
  cases o with
  | loop st pend fn N T ps assign body dh =>
    dsimp only at h2
    split at h2
    · cases h2
    · next T' hT' =>
      obtain ⟨rfl, rfl⟩ := Fr.ret_run h2
      obtain ⟨p', b, q1, q2, q3, q4, q5⟩ := h.objs _ _ g1 rfl
      obtain rfl := Option.some.inj (q1.symm.trans hp)
      cases q3 with
      | @loop _ _ _ _ _ _ tmps _ _ _ _ q hs ht hq =>
        obtain ⟨a1, a2, a3⟩ := parT_sound hT' hl hs ht
        have hsz : L.size = ps.size := by simpa using a1.symm
        refine ⟨h.heap g2 g3, g3, rfl, rfl, rfl, fn, (ps.zip L).foldl (fun tmps (t, a) => tmps.setIfInBounds t a) tmps, assign, body, run_yield q2 hsz, ?_⟩
        have hz : (ps.zip L).foldl (fun tmps (t, a) => tmps.setIfInBounds t a) tmps = (ps.toList.zip L.toList).foldl (fun tmps (t, a) => tmps.setIfInBounds t a) tmps := by
          rw [← Array.foldl_toList, Array.toList_zip]
        rw [← hz] at a2 a3
        exact ⟨rfl, ⟨a2, a3⟩, fun _ => .cons (.code _) (.cons .begR (.cons (.code _) .nil)), .nil, .run, rfl, .inr ⟨j, p', rfl, hp, rfl⟩⟩
  | _ => cases h2
theorem evOp_nodefer {T : Temps} {c : Call} {r : Re} (h : (evOp X T (.defer c)).run s = some (r, s')) : False := by cases h
/-- An operation, calls and all, at a frame. -/
theorem opA_sound (hX : XOk X n0 w0) (hu : UnitOk X n0 w0 rec) (h : Rel n0 w0 lm φ s w) {N : Nat} {T : Temps} {fr : Frame} (hf : FRel N φ T ⟨fr.tmps, []⟩) {ops : Array Oper} {i : Nat} {rest : List Nat} {k : List Item} (hmd : fr.mode = .run)
    (ht : fr.todo = .inRegion ops (i :: rest) :: k) {o : Oper} (ho : ops[i]? = some o) (hw : Region.wanted o (yielded ops fr.tmps) = true) {r : Rs} (hr : (opA X rec T o).run s = some (r, s')) (hm : s'.next ≤ lm) (cs : List Frame) :
    ∃ ψ w', Ext s.next s'.next φ ψ ∧ Rel n0 w0 lm ψ s' w' ∧ Back X.P ψ (lone fr cs w) fr cs w' r := by
  obtain ⟨re, s1, h1, h2⟩ := Fr.bind_run hr
  have hg := stG_op (P := X.P) (cs := cs) (w := w) hmd ht ho hw (.inr fun c hc => by rw [hc] at h1; exact evOp_nodefer h1)
  have hk : ∀ d b r e k, fr.todo ≠ .call d b r e :: k := by intro d b r e k hh; rw [ht] at hh; cases hh
  have hle : s1.next ≤ s'.next := by
    cases re with
    | val v => obtain ⟨_, rfl⟩ := Fr.ret_run h2; exact Nat.le_refl _
    | pan v => obtain ⟨_, rfl⟩ := Fr.ret_run h2; exact Nat.le_refl _
    | call g args => exact ((callF X rec g args).ok _ _ _ h2).le
    | yld j args => exact (Fr.ok _ _ _ _ h2).le
  have hop := evOp_sound (o := o) hX h hf h1 (by omega)
  cases re with
  | val v =>
    obtain ⟨rfl, rfl⟩ := Fr.ret_run h2
    obtain ⟨ψ, w', V, k1, k2, k3, k4⟩ := hop
    refine ⟨ψ, w', k2, k3, V, k4, .one (step_lone_go ?_)⟩
    rw [hg]
    rw [← frame_eval] at k1
    rcases k1 with k1 | ⟨k1, rfl⟩
    · exact ap_value k1
    · exact ap_skip k1
  | pan v =>
    obtain ⟨rfl, rfl⟩ := Fr.ret_run h2
    obtain ⟨V, k1, rfl, k2⟩ := hop
    rw [← frame_eval] at k1
    refine ⟨φ, w, Ext.refl _ _ _, h, [{ v := V, recovered := false }], .cons k2 .nil, .one (step_lone_go ?_)⟩
    rw [hg]; exact ap_panic k1
  | call g args =>
    obtain ⟨L, k1, rfl, k2⟩ := hop
    rw [← frame_eval] at k1
    obtain ⟨ψ, w', k3, k4, k5⟩ := callF_sound hX hu h2 h hm k2 fr cs
    have hent : step X.P (lone fr cs w) = .next (lone (Frame.enter X.P g L .normal) (fr :: cs) w) := step_lone_go (by rw [hg]; exact ap_enter hk k1)
    refine ⟨ψ, w', k3, k4, ?_⟩
    cases r with
    | val v => obtain ⟨V, q1, q2⟩ := k5; exact ⟨V, q1, .head hent q2⟩
    | pan ch => obtain ⟨kk, q1, q2⟩ := k5; exact ⟨kk, q1, .head hent q2⟩
  | yld j args =>
    obtain ⟨p, L, k1, rfl, hp, k2⟩ := hop
    rw [← frame_eval] at k1
    obtain ⟨A, s2, h3, h4⟩ := Fr.bind_run h2
    obtain ⟨r1, s3, h5, h6⟩ := Fr.bind_run h4
    obtain ⟨rfl, rfl⟩ := Fr.ret_run h6
    obtain ⟨a1, a2, a3, a4, a5, f, tm, assign, body, a6, a7⟩ := roundA_sound (X := X) h h3 hp k2
    rw [a6] at k1
    have hent : step X.P (lone fr cs w) = .next (lone (Frame.round p.b f tm assign body .normal) (fr :: cs) w) := step_lone_go (by rw [hg]; exact ap_round k1)
    obtain ⟨ψ, w', m, k3, k4, k5, k6⟩ := hu A s2 r1 _ h5 lm φ w _ (fr :: cs) (fr :: cs) a1 hm a7 (by rw [a3]; exact .no _ _) (fun _ => ⟨by simp, a3⟩)
    refine ⟨ψ, w', by rw [← a2]; exact k4, k5, ?_⟩
    exact lands_back (.head hent k3) a3 k6
end
end
end Go.Proofs.YtifcganfcjildaaGreatDoor.E
