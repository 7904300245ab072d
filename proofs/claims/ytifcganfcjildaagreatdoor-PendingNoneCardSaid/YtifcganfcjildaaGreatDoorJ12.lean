/- Merged out of: E25, E26, E27. -/
import Derived.Test.YtifcganfcjildaaGreatDoorJ11
/- The builtins as a whole. -/
namespace Go.Proofs.YtifcganfcjildaaGreatDoor.E
open Go Go.RowKit
set_option linter.unusedVariables false
set_option linter.unusedSimpArgs false
set_option linter.unnecessarySimpa false
noncomputable section

section
variable {P : Program} {n0 : Nat} {w0 : World} {lm : Nat} {φ : Map} {s s' : HS} {w : World}
theorem maxA_sound {mx : Bool} {l : List AV} {L : List Value} {r : AV} {ts : Array TypeId} {ty : TypeId} (hl : VRs φ l L) (h : maxA mx l = some r) : ∃ R, ((if mx then Builtin.max_ else Builtin.min_) ts ty L.toArray).run P w = .ok R w ∧ VR φ r R := by
  cases hl with
  | nil => cases h
  | cons hv ht =>
    cases hv with
    | int k a =>
      obtain ⟨R, r1, r2⟩ := maxG_sound (P := P) (w := w) ht h
      refine ⟨R, ?_, r2⟩
      cases mx with
      | true => simpa [Builtin.max_] using r1
      | false => simpa [Builtin.min_] using r1
    | _ => cases h
theorem Ans.next {r : AV} {m : Sem Value} (h : Ans P n0 w0 lm φ s s' r m w) {ts : Sem Next} (hm : ∀ w' V, m.run P w = .ok V w' → ts.run P w = .ok (.value V) w') : ∃ ψ w' V, ts.run P w = .ok (.value V) w' ∧ Ext s.next s'.next φ ψ ∧ Rel n0 w0 lm ψ s' w' ∧ VR ψ r V := by
  obtain ⟨ψ, w', V, a1, a2, a3, a4⟩ := h
  exact ⟨ψ, w', V, hm w' V a1, a2, a3, a4⟩
theorem builtA_sound (h : Rel n0 w0 lm φ s w) {b : Builtin} {ts : Array TypeId} {ty : TypeId} {cs : Array Bool} {args : List AV} {L : List Value} {r : AV} (hl : VRs φ args L) (hr : (builtA P b ts args).run s = some (r, s')) (hm : s'.next ≤ lm) :
    ∃ ψ w' V, (builtin b ts ty cs L.toArray).run P w = .ok (.value V) w' ∧ Ext s.next s'.next φ ψ ∧ Rel n0 w0 lm ψ s' w' ∧ VR ψ r V := by
  unfold builtA at hr
  split at hr
  · cases hl with
    | cons hx hn =>
      cases hn
      split at hr
      · cases hr
      · next t ht => exact (lenB_sound (ty := ty) h ht hx hr).next fun w' V e => by simp [builtin, e]
  · cases hl with
    | cons hx hn =>
      cases hn
      split at hr
      · cases hr
      · next t ht => exact (capB_sound (ty := ty) h ht hx hr).next fun w' V e => by simp [builtin, e]
  · cases hl with
    | cons hx hn =>
      cases hn with
      | cons hy hn =>
        cases hn
        split at hr
        · next t tx ht =>
          obtain ⟨hnm, hr2⟩ := cond_run hr
          have : ts = #[t, tx] := Array.toList_inj.1 ht
          subst this
          exact (appendB_sound (ty := ty) h hx hy hnm hr2 hm).next fun w' V e => by simp [builtin, e]
        · cases hr
  · cases hl with
    | cons hx hn =>
      cases hn with
      | cons hy hn =>
        cases hn
        split at hr
        · cases hr
        · next t ht => exact (copyB_sound (ty := ty) h ht hx hy hr).next fun w' V e => by simp [builtin, e]
  · cases hl with
    | cons hx hn =>
      cases hn
      split at hr
      · cases hr
      · next t ht => exact (clearB_sound (ty := ty) h ht hx hr).next fun w' V e => by simp [builtin, e]
  · cases hl with
    | cons hx hn =>
      cases hn with
      | cons hy hn =>
        cases hn
        split at hr
        · next t ht =>
          obtain ⟨u, s1, k1, k2⟩ := Fr.bind_run hr
          obtain ⟨rfl, rfl⟩ := Fr.ret_run k2
          obtain ⟨a1, w', a2, a3⟩ := delA_sound (ty := ty) h ht hx hy k1
          exact ⟨φ, w', .tuple #[], by simp [builtin, a2], by rw [a1]; exact Ext.refl _ _ _, a3, .tup .nil⟩
        · cases hr
  · obtain ⟨e1, rfl⟩ := Fr.of_run hr
    obtain ⟨R, r1, r2⟩ := maxA_sound (P := P) (w := w) (ts := ts) (ty := ty) hl e1
    exact ⟨φ, w, R, by simp only [if_true] at r1; simp [builtin, r1], Ext.refl _ _ _, h, r2⟩
  · obtain ⟨e1, rfl⟩ := Fr.of_run hr
    obtain ⟨R, r1, r2⟩ := maxA_sound (P := P) (w := w) (ts := ts) (ty := ty) hl e1
    exact ⟨φ, w, R, by simp only [Bool.false_eq_true, if_false] at r1; simp [builtin, r1], Ext.refl _ _ _, h, r2⟩
  · cases hr
end
end
end Go.Proofs.YtifcganfcjildaaGreatDoor.E

/- A walk begun. -/
namespace Go.Proofs.YtifcganfcjildaaGreatDoor.E
open Go Go.RowKit
set_option linter.unusedVariables false
set_option linter.unusedSimpArgs false
set_option linter.unnecessarySimpa false
noncomputable section

section
variable {P : Program} {n0 : Nat} {w0 : World} {lm : Nat} {φ : Map} {s s' : HS} {w : World}
theorem newIt_sound (h : Rel n0 w0 lm φ s w) {o : AO} {b : Obj} {r : AV} (ho : o.own = true) (hb : ∀ ψ, φ.le ψ → OR ψ o b ⟨w.heap.size, 0, 0⟩) (hr : ((Fr.new o).bind fun h => .ret (AV.ptr h 0)).run s = some (r, s')) (hm : s'.next ≤ lm) :
    ∃ ψ, Ext s.next s'.next φ ψ ∧ Rel n0 w0 lm ψ s' (w.alloc b) ∧ VR ψ r (.pointer (some ⟨w.heap.size, 0, none⟩)) := by
  obtain ⟨g, s1, k1, k2⟩ := Fr.bind_run hr
  obtain ⟨rfl, rfl⟩ := Fr.ret_run k2
  obtain ⟨e1, e2, e3, e4⟩ := h.new k1 hm b 0 0 ho (hb _ (h.ext_add (by have := (Fr.new_run k1).2.1; omega) _).le)
  refine ⟨_, e3, e4, ?_⟩
  have := VR.ptr (φ := φ.add s.next ⟨w.heap.size, 0, 0⟩) (h := g) (off := 0) (p := ⟨w.heap.size, 0, 0⟩) (by rw [e1]; simp [Map.add])
  simpa using this
theorem rangeA_sound (h : Rel n0 w0 lm φ s w) {t : TypeId} {x r : AV} {X : Value} (hx : VR φ x X) (hr : (rangeA P t x).run s = some (r, s')) (hm : s'.next ≤ lm) : Ans P n0 w0 lm φ s s' r (Instr.range t X) w := by
  unfold rangeA at hr
  cases hu : P.underlying t with
  | none => rw [hu] at hr; cases hr
  | some d =>
    rw [hu] at hr
    cases d with
    | string =>
      cases hx with
      | @str l b he =>
        obtain ⟨ψ, a1, a2, a3⟩ := newIt_sound (b := .stringIter b 0) h rfl (fun ψ _ => .sit rfl he) hr hm
        exact ⟨ψ, _, _, by simp [Instr.range, run_underlying hu, newObj, Sem.run], a1, a2, a3⟩
      | _ => cases hr
    | map k e =>
      cases hx with
      | nilm =>
        obtain ⟨ψ, a1, a2, a3⟩ := newIt_sound (b := .mapIter none 0 #[] 0) h rfl (fun ψ _ => .mit0 (seen := #[]) rfl) hr hm
        exact ⟨ψ, _, _, by simp [Instr.range, run_underlying hu, newObj, Sem.run], a1, a2, a3⟩
      | map hp =>
        obtain ⟨⟨es, c⟩, s1, h1, h2⟩ := Fr.bind_run hr
        obtain ⟨r1, q1, q2, q3, p, E, q4, q5, q6⟩ := mapOf_sound h h1
        obtain rfl := Option.some.inj (q4.symm.trans hp)
        have hg : (getObj p.b).run P w = .ok (.map E c) w := by simp [getObj, Sem.run, q5]
        obtain ⟨ψ, a1, a2, a3⟩ := newIt_sound (b := .mapIter (some p.b) c #[] c) r1 rfl (fun ψ hle => .mit (seen := #[]) rfl (hle _ _ q4)) h2 hm
        exact ⟨ψ, _, _, by simp [Instr.range, run_underlying hu, hg, newObj, Sem.run], by rw [← q2]; exact a1, a2, a3⟩
      | _ => cases hr
    | _ => cases hr
end
end
end Go.Proofs.YtifcganfcjildaaGreatDoor.E

/- A walk's next step along a text. -/
namespace Go.Proofs.YtifcganfcjildaaGreatDoor.E
open Go Go.RowKit
set_option linter.unusedVariables false
set_option linter.unusedSimpArgs false
set_option linter.unnecessarySimpa false
noncomputable section

theorem bytesOf_eq (b : ByteArray) : bytesOf (b.data.toList.map (·.toNat)) = b := by
  unfold bytesOf
  have : ((b.data.toList.map (·.toNat)).map UInt8.ofNat).toArray = b.data := by
    apply Array.toList_inj.1
    rw [List.map_map]
    have hf : (UInt8.ofNat ∘ fun x : UInt8 => x.toNat) = id := by funext x; simp
    rw [hf]
    simp
  rw [this]
section
variable {P : Program} {n0 : Nat} {w0 : World} {lm : Nat} {φ : Map} {s s' : HS} {w : World}
theorem nextStr_sound (h : Rel n0 w0 lm φ s w) {x r : AV} {X : Value} {ty : TypeId} (hx : VR φ x X) (hr : (nextA x true).run s = some (r, s')) : Ans P n0 w0 lm φ s s' r (Instr.next X true ty) w := by
  unfold nextA at hr
  split at hr
  · next hh _ _ =>
    cases hx with
    | @ptr _ _ p hp =>
      obtain ⟨o, s1, h1, h2⟩ := Fr.bind_run hr
      obtain ⟨g1, g2, g3⟩ := Fr.get_run h1
      cases o with
      | sit l pos =>
        obtain ⟨p', b, q1, q2, q3, q4, q5⟩ := h.objs _ _ g1 rfl
        obtain rfl := Option.some.inj (q1.symm.trans hp)
        cases q3 with
        | @sit _ bs _ _ hd he =>
          have hg : (getObj p'.b).run P w = .ok (.stringIter bs pos) w := by simp [getObj, Sem.run, q2]
          subst he
          have hlen : (bs.data.toList.map (·.toNat)).length = bs.size := by simp
          dsimp only at h2
          cases hb : Nat.blt pos (bs.data.toList.map (·.toNat)).length with
          | false =>
            rw [hb] at h2
            obtain ⟨rfl, rfl⟩ := Fr.ret_run h2
            have hlt : ¬ pos < bs.size := by
              rw [← hlen]; intro hh
              have : Nat.blt pos (bs.data.toList.map (·.toNat)).length = true := by rw [Nat.blt_eq]; exact hh
              rw [this] at hb; cases hb
            exact ⟨φ, w, .tuple #[.bool false], by simp [Instr.next, hd, hg, hlt], by rw [g3]; exact Ext.refl _ _ _, h.heap g2 g3, .tup (.cons (.bool _) .nil)⟩
          | true =>
            rw [hb] at h2
            have hlt : pos < bs.size := by rw [← hlen]; rw [Nat.blt_eq] at hb; exact hb
            dsimp only at h2
            rw [bytesOf_eq] at h2
            obtain ⟨u, s2, k1, k2⟩ := Fr.bind_run h2
            obtain ⟨rfl, rfl⟩ := Fr.ret_run k2
            obtain ⟨a1, a2⟩ := (h.heap g2 g3).set k1 (by rw [g2]; exact g1) rfl rfl hp (.stringIter bs (pos + (Utf8.decode bs pos).2)) (.sit hd rfl)
            have hset : (setObj p'.b (.stringIter bs (pos + (Utf8.decode bs pos).2))).run P w = .ok () (w.putObj p'.b (.stringIter bs (pos + (Utf8.decode bs pos).2))) := by simp [setObj, Sem.run, q2, World.putObj]
            exact ⟨φ, _, .tuple #[.bool true, .int .i64 pos, .int .i32 (Utf8.decode bs pos).1], by simp [Instr.next, hd, hg, hlt, hset, goInt], by rw [a1, g3]; exact Ext.refl _ _ _, a2, .tup (.cons (.bool _) (.cons (.int _ _) (.cons (.int _ _) .nil)))⟩
      | _ => cases h2
  · rename_i q; first | (cases q; done) | (exfalso; simp_all; done) | contradiction
  · cases hr
end
end
end Go.Proofs.YtifcganfcjildaaGreatDoor.E

