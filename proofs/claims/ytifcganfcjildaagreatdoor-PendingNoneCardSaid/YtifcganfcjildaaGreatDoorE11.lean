/- The builtins (but delete). -/
import Derived.Test.YtifcganfcjildaaGreatDoorE10
namespace Go.Proofs.YtifcganfcjildaaGreatDoor.E
open Go Go.RowKit
set_option linter.unusedVariables false
set_option linter.unusedSimpArgs false
set_option linter.unnecessarySimpa false
noncomputable section

/-- What a step answers that may turn the heap. -/
def Ans (P : Program) (n0 : Nat) (w0 : World) (lm : Nat) (φ : Map) (s s' : HS) (r : AV) (m : Sem Value) (w : World) : Prop :=
  ∃ ψ w' V, m.run P w = .ok V w' ∧ Ext s.next s'.next φ ψ ∧ Rel n0 w0 lm ψ s' w' ∧ VR ψ r V
section
variable {P : Program} {n0 : Nat} {w0 : World} {lm : Nat} {φ : Map} {s s' : HS} {w : World}
theorem Ans.pure {r : AV} {m : Sem Value} {V : Value} (h : Rel n0 w0 lm φ s w) (hm : m.run P w = .ok V w) (hv : VR φ r V) : Ans P n0 w0 lm φ s s r m w :=
  ⟨φ, w, V, hm, Ext.refl _ _ _, h, hv⟩
theorem lenB_sound (h : Rel n0 w0 lm φ s w) {ts : Array TypeId} {t ty : TypeId} {x r : AV} {X : Value} (ht : ts[0]? = some t) (hx : VR φ x X) (hr : (lenB P t x).run s = some (r, s')) : Ans P n0 w0 lm φ s s' r (Builtin.len_ ts ty #[X]) w := by
  unfold lenB at hr
  cases hu : P.underlying t with
  | none => rw [hu] at hr; cases hr
  | some u =>
    rw [hu] at hr
    cases u with
    | string =>
      cases hx with
      | str he =>
        obtain ⟨rfl, rfl⟩ := Fr.ret_run hr
        subst he
        refine Ans.pure h (V := .int .i64 _) ?_ (.int _ _)
        simp [Builtin.len_, ht, run_underlying hu, goInt]
      | _ => cases hr
    | array n e =>
      obtain ⟨rfl, rfl⟩ := Fr.ret_run hr
      refine Ans.pure h (V := .int .i64 n) ?_ (.int _ _)
      simp [Builtin.len_, ht, run_underlying hu, goInt]
    | slice e =>
      cases hx with
      | nils =>
        obtain ⟨rfl, rfl⟩ := Fr.ret_run hr
        refine Ans.pure h (V := .int .i64 0) ?_ (.int _ _)
        simp [Builtin.len_, ht, run_underlying hu, goInt]
      | emp hp hn _ =>
        obtain ⟨rfl, rfl⟩ := Fr.ret_run hr
        refine Ans.pure h (V := .int .i64 0) ?_ (.int _ _)
        simp [Builtin.len_, ht, run_underlying hu, goInt]
      | sl hp hc hl hn _ =>
        obtain ⟨rfl, rfl⟩ := Fr.ret_run hr
        refine Ans.pure h (V := .int .i64 _) ?_ (.int _ _)
        simp [Builtin.len_, ht, run_underlying hu, goInt]
      | _ => cases hr
    | map k e =>
      cases hx with
      | nilm =>
        obtain ⟨rfl, rfl⟩ := Fr.ret_run hr
        refine Ans.pure h (V := .int .i64 0) ?_ (.int _ _)
        simp [Builtin.len_, ht, run_underlying hu, goInt]
      | map hp =>
        obtain ⟨o, s1, h1, h2⟩ := Fr.bind_run hr
        obtain ⟨g1, g2, g3⟩ := Fr.get_run h1
        cases o with
        | map es c =>
          obtain ⟨rfl, rfl⟩ := Fr.ret_run h2
          obtain ⟨p, b, q1, q2, q3, q4, q5⟩ := h.objs _ _ g1 rfl
          obtain rfl := Option.some.inj (q1.symm.trans hp)
          cases q3 with
          | @map _ E _ _ he =>
            have hl : es.length = E.size := by
              have : ∀ {l : List (AV × AV × Nat)} {m : List MapEntry}, ERs φ l m → l.length = m.length := by
                intro l m hm
                induction hm with
                | nil => rfl
                | cons _ _ _ ih => simp [ih]
              rw [this he]; simp
            refine ⟨φ, w, .int .i64 es.length, ?_, by rw [g3]; exact Ext.refl _ _ _, h.heap g2 g3, .int _ _⟩
            have hg : (getObj p.b).run P w = .ok (.map E c) w := by simp [getObj, Sem.run, q2]
            simp [Builtin.len_, ht, run_underlying hu, goInt, hg, hl]
        | _ => cases h2
      | _ => cases hr
    | _ => cases hr
theorem capB_sound (h : Rel n0 w0 lm φ s w) {ts : Array TypeId} {t ty : TypeId} {x r : AV} {X : Value} (ht : ts[0]? = some t) (hx : VR φ x X) (hr : (capB P t x).run s = some (r, s')) : Ans P n0 w0 lm φ s s' r (Builtin.cap_ ts ty #[X]) w := by
  unfold capB at hr
  cases hu : P.underlying t with
  | none => rw [hu] at hr; cases hr
  | some u =>
    rw [hu] at hr
    cases u with
    | slice e =>
      cases hx with
      | nils =>
        obtain ⟨rfl, rfl⟩ := Fr.ret_run hr
        refine Ans.pure h (V := .int .i64 0) ?_ (.int _ _)
        simp [Builtin.cap_, ht, run_underlying hu, goInt]
      | @sl _ _ _ _ c cap _ hp hc hl hn _ =>
        cases cap with
        | none => cases hr
        | some c' =>
          obtain rfl := hc c' rfl
          obtain ⟨rfl, rfl⟩ := Fr.ret_run hr
          refine Ans.pure h (V := .int .i64 c) ?_ (.int _ _)
          simp [Builtin.cap_, ht, run_underlying hu, goInt]
      | _ => cases hr
    | _ => cases hr
theorem rep_length (l : List AV) : ∀ n, (rep l n).length = n * l.length
  | 0 => by simp [rep]
  | n + 1 => by rw [rep, List.length_append, rep_length l n, Nat.succ_mul]; omega
theorem rep_ones {l : List AV} (h : ∀ v ∈ l, v.one = true) : ∀ n, ∀ v ∈ rep l n, v.one = true
  | 0, v, hv => by cases hv
  | n + 1, v, hv => by
    rcases List.mem_append.1 hv with hv | hv
    · exact h v hv
    · exact rep_ones h n v hv
theorem run_append_made {P : Program} (w : World) {t tx ty e : TypeId} {i : TypeInfo} {z : Value} (ht : P.underlying t = some (.slice e)) {k : IntKind} (hti : P.underlying tx = some (.int k)) (hi : P.info? e = some i) (hz : i.zero = some z)
    (hsn : 0 < i.size) (kx : IntKind) (n : Nat) (hn0 : 0 < n) (hn : n ≤ 1000000) (hb : i.bytes ≤ 1000000) :
    (Builtin.append_ #[t, tx] ty #[.slice none 0 0, .int kx n]).run P w =
      .ok (.slice (some ⟨w.heap.size, 0, none⟩) n (grownCap w n 0 e)) (w.drew.alloc (.cells (Builtin.zeroCells z.cells n ++ Builtin.zeroCells z.cells (grownCap w n 0 e - n)) e)) := by
  have hw : IntKind.i64.wrap (n : Int) = n := by rw [IntKind.wrap_i64]; omega
  have hneg : ¬ ((n : Int) < 0) := by omega
  have hmul := Nat.mul_le_mul hn hb
  have hbig : ¬ (281474976710656 < (n : Int) * (i.bytes : Int)) := by
    rw [← Int.natCast_mul]
    omega
  have hle : ¬ (n ≤ 0) := by omega
  have hne : ¬ (n = 0) := by omega
  have h63 : ¬ (9223372036854775807 < (n : Int)) := by omega
  have hf := fit_le (need := n) (o := 0) (b := i.bytes) (by omega) hb hn0
  have h48 : ¬ (281474976710656 < Builtin.nextslicecap n 0 * i.bytes) := by omega
  have hmz : ¬ (n * i.size = 0) := Nat.mul_ne_zero hne (by omega)
  have hse : ¬ (i.size = 0) := by omega
  have hfo : (Builtin.firstCells i.size 0 (.slice none 0 0)).run P w.drew = .ok #[] w.drew := run_firstCells_none _ _ _ _ _
  simp [Builtin.append_, run_underlying ht, run_underlying hti, sizeOf, typeInfo, zeroValue, hi, hz, asInt, asIntOf, hw, hneg, hbig, hle, hne, h63, h48, Question.forced, hfo, newRow, grownCap, hmz, hse]
theorem appendZ_sound (h : Rel n0 w0 lm φ s w) {t tx ty e : TypeId} {u : TypeDesc} {sv x r : AV} {S X : Value} (ht : P.underlying t = some (.slice e)) (hu : P.underlying tx = some u) (hs : VR φ sv S) (hx : VR φ x X)
    (hr : (appendZ P e u sv x).run s = some (r, s')) (hm : s'.next ≤ lm) : Ans P n0 w0 lm φ s s' r (Builtin.append_ #[t, tx] ty #[S, X]) w := by
  unfold appendZ at hr
  split at hr
  · next k kx m =>
    cases hs
    cases hx
    split at hr
    · next i z hi hz =>
      obtain ⟨hc, hr2⟩ := cond_run hr
      simp only [Bool.and_eq_true, decide_eq_true_eq] at hc
      obtain ⟨⟨⟨⟨⟨m0, fm⟩, fb⟩, hzl⟩, hsz⟩, ho⟩ := hc
      have fm := few_le fm
      have fb := few_le fb
      have hzl := Nat.eq_of_beq_eq_true hzl
      have hsz : 0 < i.size := Nat.le_of_ble_eq_true hsz
      obtain ⟨zv, hzv, hzr⟩ := zero_parts (φ := φ) hi hz
      have hzc := hzr.cells (ones_mem ho)
      have hzs : zv.cells.size = i.size := by have := hzc.length; simp at this; omega
      obtain ⟨n, rfl⟩ := Int.eq_ofNat_of_zero_le (Int.le_of_lt m0)
      rw [Int.toNat_natCast] at fm hr2
      have hn0 : 0 < n := by omega
      have hv : VRs φ (rep (cellsA z) n) (Builtin.zeroCells zv.cells n).toList := by
        unfold Builtin.zeroCells
        rw [zeros_list _ _ _ rfl]
        exact rep_sound hzc n
      obtain ⟨ψ, a1, a2, a3⟩ := newRow_sound (e := e) h hv (rep_ones (ones_mem ho) n) (by rw [rep_length, hzl]) (grownCap_ge w n 0 e) (R := (Builtin.zeroCells zv.cells (grownCap w n 0 e - n)).toList) (by rw [zeros_len, hzs]) hr2 hm (by rw [Array.toList_append])
      exact ⟨ψ, _, _, run_append_made w ht hu hi hzv hsz kx n hn0 fm fb, a1, a2, a3⟩
    · cases hr
  · cases hr
theorem appendB_sound (h : Rel n0 w0 lm φ s w) {t tx ty : TypeId} {sv x r : AV} {S X : Value} (hs : VR φ sv S) (hx : VR φ x X) (hn : notNilm x = true) (hr : (appendB P t tx sv x).run s = some (r, s')) (hm : s'.next ≤ lm) : Ans P n0 w0 lm φ s s' r (Builtin.append_ #[t, tx] ty #[S, X]) w := by
  unfold appendB at hr
  cases hu : P.underlying t with
  | none => rw [hu] at hr; cases hr
  | some u =>
    rw [hu] at hr
    cases u with
    | slice e =>
      cases hv : P.underlying tx with
      | none => rw [hv] at hr; cases hr
      | some v =>
        rw [hv] at hr
        dsimp only at hr
        cases hst : srcT v with
        | false =>
          rw [hst] at hr
          exact appendZ_sound h hu hv hs hx hr hm
        | true =>
          rw [hst] at hr
          dsimp only at hr
          cases hi : P.info? e with
          | none => rw [hi] at hr; cases hr
          | some i =>
            rw [hi] at hr
            cases hz : zero P e with
            | none => rw [hz] at hr; cases hr
            | some z =>
              rw [hz] at hr
              cases hl : lenA x with
              | none => rw [hl] at hr; cases hr
              | some n =>
                rw [hl] at hr
                obtain ⟨new, s1, h1, h2⟩ := Fr.bind_run hr
                obtain ⟨hb, h3⟩ := cond_run h2
                rw [Bool.and_eq_true, Bool.and_eq_true] at hb
                have hnl := Nat.eq_of_beq_eq_true hb.1.1
                obtain ⟨r1, q1, q2, news, v1, v2, v3⟩ := readA_sound (P := P) h hx hl (Nat.le_refl _) h1 hnl
                have hkind : (∃ e', P.underlying tx = some (.slice e')) ∨ P.underlying tx = some .string := by
                  cases v with
                  | slice e' => exact .inl ⟨e', hv⟩
                  | string => exact .inr hv
                  | _ => cases hst
                have hsrc : Src P i.size tx X n news w := ⟨hkind, fun w' => lenA_sound hx hl (by rintro rfl; cases hn) w', v3 w rfl, v3 w.drew rfl, by rw [← v1.length]; exact hnl, v2⟩
                obtain ⟨ψ, w', V, a1, a2, a3, a4⟩ := appendA_sound (ty := ty) r1 hu hi hz (Nat.eq_of_beq_eq_true hb.1.2) hb.2 hs hsrc v1 h3 hm
                exact ⟨ψ, w', V, a1, by rw [← q2]; exact a2, a3, a4⟩
    | _ => cases hr
theorem copyB_sound (h : Rel n0 w0 lm φ s w) {ts : Array TypeId} {t ty : TypeId} {d x r : AV} {D X : Value} (ht : ts[0]? = some t) (hd : VR φ d D) (hx : VR φ x X) (hr : (copyB P t d x).run s = some (r, s')) : Ans P n0 w0 lm φ s s' r (Builtin.copy_ ts ty #[D, X]) w := by
  unfold copyB at hr
  cases hu : P.underlying t with
  | none => rw [hu] at hr; cases hr
  | some u =>
    rw [hu] at hr
    cases u with
    | slice e =>
      dsimp only at hr
      cases hz : sz P e with
      | none => rw [hz] at hr; cases hr
      | some es =>
        rw [hz] at hr
        cases hl : lenA x with
        | none => rw [hl] at hr; cases hr
        | some n =>
          rw [hl] at hr
          obtain ⟨hnm, hr2⟩ := cond_run hr
          cases hd with
          | @sl hh off len es' c cap p hp hc hl2 hn _ =>
            obtain ⟨src, s1, h1, h2⟩ := Fr.bind_run hr2
            obtain ⟨hb, h3⟩ := cond_run h2
            rw [Bool.and_eq_true, Bool.and_eq_true] at hb
            have := Nat.eq_of_beq_eq_true hb.1.1
            subst this
            have hlen := Nat.eq_of_beq_eq_true hb.1.2
            obtain ⟨r1, q1, q2, news, v1, v2, v3⟩ := readA_sound (P := P) h hx hl (Nat.min_le_left _ _) h1 hlen
            obtain ⟨cs, s2, k1, k2⟩ := Fr.bind_run h3
            obtain ⟨r2, g1, g2, g3, p', C, e0, hcs⟩ := ownCells_sound r1 k1
            obtain rfl := Option.some.inj (hcs.at_.symm.trans hp)
            cases hsp : splice cs off src with
            | none => rw [hsp] at k2; cases k2
            | some cs' =>
              rw [hsp] at k2
              obtain ⟨u, s3, k3, k4⟩ := Fr.bind_run k2
              obtain ⟨rfl, rfl⟩ := Fr.ret_run k4
              obtain ⟨a1, w', a2, a3⟩ := write_sound (P := P) r2 hcs (by rw [g1]; exact g3) hsp v1 (ones_mem hb.2) k3
              refine ⟨φ, w', .int .i64 (min n len : Nat), ?_, by rw [a1, g2, q2]; exact Ext.refl _ _ _, a3, .int _ _⟩
              have hln := lenA_sound (P := P) hx hl (by rintro rfl; cases hnm) w
              have hfc := v3 w rfl
              have e1 : n.min len = min n len := rfl
              simp [Builtin.copy_, ht, run_underlying hu, run_sz hz, hln, e1, hfc, a2, goInt]
          | _ => cases hr2
    | _ => cases hr
end
end
end Go.Proofs.YtifcganfcjildaaGreatDoor.E
