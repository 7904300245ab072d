/- Slices cut, read, grown. -/
import Derived.Test.YtifcganfcjildaaGreatDoorE6
namespace Go.Proofs.YtifcganfcjildaaGreatDoor.E
open Go Go.RowKit
set_option linter.unusedVariables false
set_option linter.unusedSimpArgs false
set_option linter.unnecessarySimpa false
noncomputable section

theorem extract_map (s : ByteArray) (l h : Nat) : (s.extract l h).data.toList.map (·.toNat) = ((s.data.toList.map (·.toNat)).take h).drop l := by
  rw [ByteArray.data_extract, Array.toList_extract, List.extract_eq_take_drop, ← List.drop_take, List.map_drop, List.map_take]
theorem sliceA_sound {P : Program} {N : Nat} {φ : Map} {T : Temps} {a : Act} (hf : FRel N φ T a) {t : TypeId} {x : AV} {X : Value} {lo hi mx : Option Operand} {v : AV} (hx : VR φ x X) (hmx : maxed hi mx = true)
    (h : sliceA P T t x lo hi mx = some v) (w : World) : ∃ y, (Instr.sliceAt t X (lo.map a.eval) (hi.map a.eval) (mx.map a.eval)).run P w = .ok y w ∧ VR φ v y := by
  unfold sliceA at h
  split at h
  · next s hu =>
    cases mx with
    | some _ => cases h
    | none =>
      simp only at h
      cases e1 : boundO T s.length s.length hi with
      | none => rw [e1] at h; cases h
      | some h' =>
        rw [e1] at h; simp only at h
        cases e2 : boundO T 0 h' lo with
        | none => rw [e2] at h; cases h
        | some l =>
          rw [e2] at h
          simp only [seqS_eq] at h; obtain rfl := Option.some.inj h
          cases hx with
          | str he =>
            next b =>
            have hl : s.length = b.size := by rw [← he]; simp
            obtain ⟨k1, _⟩ := bounds_sound (P := P) hf (isS := false) (len := s.length) (cap := s.length) (cap' := s.length) (mx := none) (Nat.le_refl _) (by cases hi <;> rfl) rfl e1 e2 (fun _ _ => trivial) w
            rw [hl] at k1
            refine ⟨.string (b.extract l h'), ?_, .str (by rw [extract_map, he])⟩
            simp only [Instr.sliceAt, Sem.run_bind, run_underlying hu, Result.andThen_ok, Instr.slice, Option.map_none, Option.isSome_none, Bool.false_eq_true, if_false, Sem.run_pure] at k1 ⊢
            simp only [k1, Result.andThen_ok]
  · next e hu =>
    cases hz : sz P e with
    | none => rw [hz] at h; cases h
    | some n =>
      rw [hz] at h; simp only at h
      cases e0 : boundO T 0 0 mx with
      | none => rw [e0] at h; cases h
      | some m =>
        rw [e0] at h; simp only at h
        cases e1 : boundO T 0 0 hi with
        | none => rw [e1] at h; cases h
        | some h' =>
          rw [e1] at h; simp only at h
          cases e2 : boundO T 0 0 lo with
          | none => rw [e2] at h; cases h
          | some l =>
            rw [e2] at h
            obtain rfl := Option.some.inj h
            cases hx
            have hm0 : m = 0 := by
              cases mx with
              | none => exact (Option.some.inj e0).symm
              | some z => obtain ⟨u, hu, hc⟩ := boundO_some hf e0; have := (boundA_sound (P := P) hu hc (Nat.le_refl _) .index w).2; omega
            subst hm0
            have hh0 : h' = 0 := by
              cases hi with
              | none => exact (Option.some.inj e1).symm
              | some z => obtain ⟨u, hu, hc⟩ := boundO_some hf e1; have := (boundA_sound (P := P) hu hc (Nat.le_refl _) .index w).2; omega
            subst hh0
            obtain ⟨k1, k2, k3, k4, k5, k6⟩ := bounds_sound (P := P) hf (isS := true) (len := 0) (cap := 0) (cap' := 0) (Nat.le_refl _) hmx e0 e1 e2 (fun _ _ => trivial) w
            have hl0 : l = 0 := by omega
            subst hl0
            refine ⟨.slice none 0 0, ?_, .nils⟩
            simp only [Instr.sliceAt, Sem.run_bind, run_underlying hu, Result.andThen_ok, Instr.slice, k1, run_sz hz]
            cases mx <;> simp
  · next e b off len es cap hu =>
    cases hz : sz P e with
    | none => rw [hz] at h; cases h
    | some n =>
      rw [hz] at h; simp only at h
      cases hb : Nat.beq n es with
      | false => rw [hb] at h; cases h
      | true =>
        rw [hb] at h
        have := Nat.eq_of_beq_eq_true hb
        subst this
        simp only [cd] at h
        cases e0 : boundO T (cap.getD len) (cap.getD len) mx with
        | none => rw [e0] at h; cases h
        | some m =>
          rw [e0] at h; simp only at h
          cases e1 : boundO T len m hi with
          | none => rw [e1] at h; cases h
          | some h' =>
            rw [e1] at h; simp only at h
            cases e2 : boundO T 0 h' lo with
            | none => rw [e2] at h; cases h
            | some l =>
              rw [e2] at h; simp only at h
              cases hx with
              | sl hp hc hl hn hfull =>
                next c p =>
                have hcl : cap.getD len ≤ c := by
                  cases cap with
                  | none => exact hl
                  | some k => rw [hc k rfl]; exact Nat.le_refl _
                obtain ⟨k1, k2, k3, k4, k5, k6⟩ := bounds_sound (P := P) hf (isS := true) (len := len) (cap := cap.getD len) (cap' := c) hcl hmx e0 e1 e2 (fun _ _ => trivial) w
                have hhm : h' ≤ m ∨ (mx = none ∧ h' ≤ c) := by
                  cases hi with
                  | some y => exact Or.inl (k2 rfl)
                  | none =>
                    cases mx with
                    | some z => cases hmx
                    | none => rw [k6 rfl]; exact Or.inr ⟨rfl, hl⟩
                cases cap with
                | some k =>
                  have hck : c = k := hc k rfl
                  subst hck
                  have hm : (if mx.isSome then m else c) = m := by
                    cases mx with
                    | some z => rfl
                    | none => rw [k5 rfl]; rfl
                  rw [hm] at k1
                  have hh : h' ≤ m := by
                    rcases hhm with h9 | ⟨h9, h10⟩
                    · exact h9
                    · rw [k5 h9]; exact h10
                  have hmc : m ≤ c := k3
                  have he : v = .sl b (cd (Nat.beq m l) off (off + l * n)) (h' - l) n (some (m - l)) := by
                    cases mx <;> exact (Option.some.inj h).symm
                  subst he
                  refine ⟨.slice (if m = l then some ⟨p.b, p.d + off, none⟩ else some ⟨p.b, p.d + off + l * n, none⟩) (h' - l) (m - l), ?_, ?_⟩
                  · simp only [Instr.sliceAt, Sem.run_bind, run_underlying hu, Result.andThen_ok, Instr.slice, k1, run_sz hz, Sem.run_pure, Option.map_some, add_eq]
                  · by_cases c1 : m = l
                    · subst c1
                      have e1 : Nat.beq m m = true := Nat.beq_refl _
                      rw [e1]; dsimp only [cd]; rw [if_pos rfl]
                      exact .sl hp (fun k hk => by rw [Option.some.inj hk]) (by omega) (by have := Nat.zero_le (c * n); simp; omega) (fun k => by cases k)
                    · have e1 : Nat.beq m l = false := by
                        cases h9 : Nat.beq m l with
                        | false => rfl
                        | true => exact absurd (Nat.eq_of_beq_eq_true h9) c1
                      rw [e1]; dsimp only [cd]; rw [if_neg c1]
                      have hmul : l * n + (m - l) * n ≤ c * n := by rw [← Nat.add_mul]; exact Nat.mul_le_mul_right _ (by omega)
                      have := VR.sl (φ := φ) (h := b) (off := off + l * n) (len := h' - l) (es := n) (c := m - l) (cap := some (m - l)) hp (fun k hk => by rw [Option.some.inj hk]) (by omega) (by omega) (fun k => by cases k)
                      simpa [Nat.add_assoc] using this
                | none =>
                  cases mx with
                  | some z =>
                    have hm : (if (some z : Option Operand).isSome then m else c) = m := rfl
                    rw [hm] at k1
                    simp only [Option.map_some] at k1
                    have hh : h' ≤ m := by
                      rcases hhm with h9 | ⟨h9, h10⟩
                      · exact h9
                      · cases h9
                    have hmc : m ≤ len := k3
                    obtain rfl := Option.some.inj h
                    refine ⟨.slice (if m = l then some ⟨p.b, p.d + off, none⟩ else some ⟨p.b, p.d + off + l * n, none⟩) (h' - l) (m - l), ?_, ?_⟩
                    · simp only [Instr.sliceAt, Sem.run_bind, run_underlying hu, Result.andThen_ok, Instr.slice, k1, run_sz hz, Sem.run_pure, Option.map_some, add_eq]
                    · by_cases c1 : m = l
                      · subst c1
                        have e1 : Nat.beq m m = true := Nat.beq_refl _
                        rw [e1]; dsimp only [cd]; rw [if_pos rfl]
                        exact .sl hp (fun k hk => by rw [Option.some.inj hk]) (by omega) (by have := Nat.zero_le (c * n); simp; omega) (fun k => by cases k)
                      · have e1 : Nat.beq m l = false := by
                          cases h9 : Nat.beq m l with
                          | false => rfl
                          | true => exact absurd (Nat.eq_of_beq_eq_true h9) c1
                        rw [e1]; dsimp only [cd]; rw [if_neg c1]
                        have hmul : l * n + (m - l) * n ≤ c * n := by rw [← Nat.add_mul]; exact Nat.mul_le_mul_right _ (by omega)
                        have := VR.sl (φ := φ) (h := b) (off := off + l * n) (len := h' - l) (es := n) (c := m - l) (cap := some (m - l)) hp (fun k hk => by rw [Option.some.inj hk]) (by omega) (by omega) (fun k => by cases k)
                        simpa [Nat.add_assoc] using this
                  | none =>
                    have hm : (if (none : Option Operand).isSome then m else c) = c := rfl
                    rw [hm] at k1
                    have hm2 : m = len := k5 rfl
                    have hh : h' ≤ len := by
                      cases hi with
                      | some y => have := k2 rfl; omega
                      | none => rw [k6 rfl]; exact Nat.le_refl _
                    simp only at h
                    refine ⟨.slice (if c = l then some ⟨p.b, p.d + off, none⟩ else some ⟨p.b, p.d + off + l * n, none⟩) (h' - l) (c - l), ?_, ?_⟩
                    · simp only [Instr.sliceAt, Sem.run_bind, run_underlying hu, Result.andThen_ok, Instr.slice, k1, run_sz hz, Sem.run_pure, Option.map_some, add_eq]
                    · have hmul : l * n + (c - l) * n ≤ c * n := by rw [← Nat.add_mul]; exact Nat.mul_le_mul_right _ (by omega)
                      have hfl := hfull rfl
                      cases hlt : (Nat.blt l h' || Nat.beq l 0) with
                      | true =>
                        rw [hlt] at h
                        obtain rfl := Option.some.inj h
                        rw [Bool.or_eq_true] at hlt
                        have hl2 : l < h' ∨ l = 0 := hlt.imp (fun x => Nat.le_of_ble_eq_true x) (fun x => Nat.eq_of_beq_eq_true x)
                        have hmul2 : l * n + (c - l) * n = c * n := by rw [← Nat.add_mul]; congr 1; omega
                        have := VR.sl (φ := φ) (h := b) (off := off + l * n) (len := h' - l) (es := n) (c := c - l) (cap := none) hp (fun k hk => by cases hk) (by omega) (by omega) (fun _ => by omega)
                        by_cases c1 : c = l
                        · have hl0 : l = 0 := by omega
                          rw [if_pos c1]
                          subst hl0
                          simpa using this
                        · rw [if_neg c1]
                          simpa [Nat.add_assoc] using this
                      | false =>
                        rw [hlt] at h
                        obtain rfl := Option.some.inj h
                        rw [Bool.or_eq_false_iff] at hlt
                        have hl2 : ¬ l + 1 ≤ h' := fun h9 => by rw [show Nat.blt l h' = true from Nat.ble_eq_true_of_le h9] at hlt; cases hlt.1
                        rw [show h' - l = 0 by omega]
                        by_cases c1 : c = l
                        · rw [if_pos c1]
                          exact .emp hp (by rw [show c - l = 0 by omega]; have := Nat.zero_le (c * n); simp; omega) (fun hne => absurd (show c - l = 0 by omega) hne)
                        · rw [if_neg c1]
                          have hmul2 : l * n + (c - l) * n = c * n := by rw [← Nat.add_mul]; congr 1; omega
                          exact .emp hp (by omega) (fun _ => by omega)
  · next e b es hu =>
    cases hz : sz P e with
    | none => rw [hz] at h; cases h
    | some n =>
      rw [hz] at h; simp only at h
      cases mx with
      | some _ => cases h
      | none =>
        simp only at h
        cases e1 : boundO T 0 0 hi with
        | none => rw [e1] at h; cases h
        | some h' =>
          rw [e1] at h; simp only at h
          cases e2 : boundO T 0 0 lo with
          | none => rw [e2] at h; cases h
          | some l =>
            rw [e2] at h
            obtain rfl := Option.some.inj h
            cases hx with
            | emp hp hn hfull =>
              next o c p =>
              have hh0 : h' = 0 := by
                cases hi with
                | none => exact (Option.some.inj e1).symm
                | some z => obtain ⟨u, hu, hc⟩ := boundO_some hf e1; have := (boundA_sound (P := P) hu hc (Nat.le_refl _) .index w).2; omega
              subst hh0
              obtain ⟨k1, k2, k3, k4, k5, k6⟩ := bounds_sound (P := P) hf (isS := true) (len := 0) (cap := 0) (cap' := c) (m := 0) (mx := none) (Nat.zero_le _) hmx rfl e1 e2 (fun _ _ => trivial) w
              have hl0 : l = 0 := by omega
              subst hl0
              refine ⟨.slice (some ⟨p.b, o, none⟩) 0 c, ?_, .emp hp hn hfull⟩
              simp only [Instr.sliceAt, Sem.run_bind, run_underlying hu, Result.andThen_ok, Instr.slice, k1, run_sz hz]
              simp [Addr.add]
  · cases h
end
end Go.Proofs.YtifcganfcjildaaGreatDoor.E
