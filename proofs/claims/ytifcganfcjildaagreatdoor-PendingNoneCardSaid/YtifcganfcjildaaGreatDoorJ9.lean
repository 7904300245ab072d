/- Merged out of: E15, E16, E17. -/
import Derived.Laws.BytesString
import Derived.Test.YtifcganfcjildaaGreatDoorJ8
import Derived.MapKept
/- Conversions. -/
namespace Go.Proofs.YtifcganfcjildaaGreatDoor.E
open Go Go.RowKit
set_option linter.unusedVariables false
set_option linter.unusedSimpArgs false
set_option linter.unnecessarySimpa false
noncomputable section

section
variable {P : Program} {n0 : Nat} {w0 : World} {lm : Nat} {φ : Map} {s s' : HS} {w : World}
theorem bytesA_sound : ∀ {l : List AV} {L : List Value} {b : List Nat}, VRs φ l L → bytesA l = some b → ∃ ns : List Int, L = ns.map (Value.int .u8) ∧ b = ns.map (·.toNat) ∧ ∀ n ∈ ns, n.toNat < 256
  | [], _, b, .nil, h => by
    obtain rfl := Option.some.inj h
    exact ⟨[], rfl, rfl, fun _ hn => by cases hn⟩
  | v :: l, _ :: L, b, .cons hv hl, h => by
    cases hv with
    | int k n =>
      cases k with
      | u8 =>
        simp only [bytesA] at h
        cases hc : (decide (0 ≤ n) && decide (n < 256)) with
        | false => rw [hc] at h; cases h
        | true =>
          rw [hc] at h
          simp only [Bool.and_eq_true, decide_eq_true_eq] at hc
          cases hr : bytesA l with
          | none => rw [hr] at h; cases h
          | some r =>
            rw [hr] at h
            obtain rfl := Option.some.inj h
            obtain ⟨ns, rfl, rfl, h3⟩ := bytesA_sound hl hr
            exact ⟨n :: ns, rfl, rfl, fun m hm => by
              rcases List.mem_cons.1 hm with rfl | hm
              · omega
              · exact h3 m hm⟩
      | _ => cases h
    | _ => cases h
theorem fold_push : ∀ (ns : List Int) (b : ByteArray), (ns.foldl (fun r n => r.push (UInt8.ofNat n.toNat)) b).data.toList = b.data.toList ++ ns.map fun n => UInt8.ofNat n.toNat
  | [], b => by simp
  | n :: ns, b => by
    rw [List.foldl_cons, fold_push ns]
    simp [ByteArray.push]
theorem bytesStr_sound (h : Rel n0 w0 lm φ s w) {x r : AV} {a : Addr} {len c : Nat} (hx : VR φ x (.slice (some a) len c)) (hl : lenA x = some len) (hr : (bytesStr x len).run s = some (r, s')) : Ans P n0 w0 lm φ s s' r (Conv.bytesToString (.slice (some a) len c)) w := by
  obtain ⟨l, s1, k1, k2⟩ := Fr.bind_run hr
  obtain ⟨hb, k3⟩ := cond_run k2
  have hlen := Nat.eq_of_beq_eq_true hb
  obtain ⟨r1, q1, q2, news, v1, v2, v3⟩ := readA_sound (P := P) h hx hl (Nat.le_refl _) k1 (by rw [Nat.mul_one]; exact hlen)
  cases hby : bytesA l with
  | none => rw [hby] at k3; cases k3
  | some b =>
    rw [hby] at k3
    simp only [seqS_eq] at k3; obtain ⟨rfl, rfl⟩ := Fr.ret_run k3
    obtain ⟨ns, rfl, rfl, h3⟩ := bytesA_sound v1 hby
    have hld : (loadCells a len).run P w = .ok (ns.map (Value.int .u8)).toArray w := by
      have := v3 w rfl
      simp only [Builtin.firstCells, Nat.mul_one] at this
      exact this
    refine ⟨φ, w, _, run_bytesToString w a len c ns hld, by rw [q2]; exact Ext.refl _ _ _, r1, .str ?_⟩
    rw [fold_push]
    simp only [List.map_append, List.map_map]
    show [] ++ _ = _
    rw [List.nil_append]
    apply List.map_congr_left
    intro n hn
    have := h3 n hn
    simp
    omega
theorem convA_sound (h : Rel n0 w0 lm φ s w) {src dst : TypeId} {x r : AV} {X : Value} (hx : VR φ x X) (hr : (convA P src dst x).run s = some (r, s')) : Ans P n0 w0 lm φ s s' r (convert src dst X) w := by
  unfold convA at hr
  cases hu : P.underlying src with
  | none => rw [hu] at hr; cases hr
  | some u =>
    cases hd : P.underlying dst with
    | none => rw [hu, hd] at hr; cases u <;> cases hr
    | some d =>
      rw [hu, hd] at hr
      cases d with
      | int k =>
        cases hx with
        | int k' n =>
          have hr2 : (Fr.ret (wrapA k n)).run s = some (r, s') := by cases u <;> exact hr
          obtain ⟨rfl, rfl⟩ := Fr.ret_run hr2
          refine Ans.pure h (V := .int k (k.wrap n)) ?_ (.int _ _)
          simp [convert, run_underlying hu, run_underlying hd, Conv.intToInt]
        | _ => cases u <;> cases hr
      | string =>
        cases hx with
        | @str l0 _ he =>
          have hr2 : (Fr.ret (AV.str l0)).run s = some (r, s') := by cases u <;> exact hr
          obtain ⟨rfl, rfl⟩ := Fr.ret_run hr2
          refine Ans.pure h (V := .string _) ?_ (.str he)
          simp [convert, run_underlying hu, run_underlying hd]
        | nils =>
          cases u with
          | slice e =>
            obtain ⟨hb, hr2⟩ := cond_run hr
            obtain ⟨rfl, rfl⟩ := Fr.ret_run hr2
            have he : P.underlying e = some (.int .u8) := by
              unfold isU8 at hb
              split at hb
              · assumption
              · cases hb
            refine Ans.pure h (V := .string .empty) ?_ (.str rfl)
            simp [convert, run_underlying hu, run_underlying hd, run_underlying he, Conv.bytesToString]
          | _ => cases hr
        | sl hp hc hl hn hfull =>
          cases u with
          | slice e =>
            obtain ⟨hb, hr2⟩ := cond_run hr
            have he : P.underlying e = some (.int .u8) := by
              unfold isU8 at hb
              split at hb
              · assumption
              · cases hb
            obtain ⟨ψ, w', V, a1, a2, a3, a4⟩ := bytesStr_sound (P := P) h (.sl hp hc hl hn hfull) rfl hr2
            refine ⟨ψ, w', V, ?_, a2, a3, a4⟩
            simp [convert, run_underlying hu, run_underlying hd, run_underlying he]
            exact a1
          | _ => cases hr
        | _ => cases u <;> cases hr
      | _ => cases u <;> cases hx <;> cases hr
end
end
end Go.Proofs.YtifcganfcjildaaGreatDoor.E

/- Maps: a key found. -/
namespace Go.Proofs.YtifcganfcjildaaGreatDoor.E
open Go Go.RowKit
set_option linter.unusedVariables false
set_option linter.unusedSimpArgs false
set_option linter.unnecessarySimpa false
noncomputable section

section
variable {P : Program} {n0 : Nat} {w0 : World} {lm : Nat} {φ : Map} {s s' : HS} {w : World}
theorem equal_strings (d : Nat) {t : TypeId} (a b : ByteArray) (h : P.underlying t = some .string) : (Op.equalIn (d + 1) t (.string a) (.string b)).run P w = .ok (a == b) w := by
  simp [Op.equalIn, run_underlying h]
theorem same_run {t : TypeId} {d : TypeDesc} {K A : Value} {b : Bool} (hu : P.underlying t = some d) (h : Instr.sameNow d K A = some b) : (Op.equal t K A).run P w = .ok b w := by
  show (Op.equalIn (9999 + 1) t K A).run P w = _
  unfold Instr.sameNow at h
  split at h
  · split at h
    · next hk =>
      subst hk
      obtain rfl := Option.some.inj h
      rw [run_equalIn_int w 9999 t _ _ _ _ hu]
    · cases h
  · obtain rfl := Option.some.inj h
    exact equal_strings 9999 _ _ hu
  · obtain rfl := Option.some.inj h
    rw [run_equalIn_bool w 9999 t _ _ hu]
  · cases h
/-- What a search answers. -/
def Found (φ : Map) : Option (Nat × AV × Nat) → Option (Nat × Value) → Prop
  | none, R => R = none
  | some (j, v, _), R => ∃ V, R = some (j, V) ∧ VR φ v V
theorem find_asking {kt : TypeId} {k : AV} {K : Value} (hk : VR φ k K) : ∀ {es : Ents} {E : List MapEntry} {i : Nat} {r : Option (Nat × AV × Nat)}, ERs φ es E → findA P kt k es i = some r →
    ∃ R, (Instr.findAsking kt K E i).run P w = .ok R w ∧ Found φ r R
  | [], _, i, r, .nil, h => by
    obtain rfl := Option.some.inj h
    exact ⟨none, rfl, rfl⟩
  | (a, v, b) :: es, _ :: E, i, r, .cons ha hv hes, h => by
    unfold findA at h
    cases he : eqA P Op.maxDepth kt k a with
    | none => rw [he] at h; cases h
    | some q =>
      rw [he] at h
      have hq := eqA_sound (P := P) (w := w) Op.maxDepth kt k a _ _ q he hk ha
      cases q with
      | true =>
        obtain rfl := Option.some.inj h
        refine ⟨_, ?_, _, rfl, hv⟩
        simp [Instr.findAsking, Op.equal, hq]
      | false =>
        obtain ⟨R, r1, r2⟩ := find_asking hk hes h
        refine ⟨R, ?_, r2⟩
        simp [Instr.findAsking, Op.equal, hq]
        exact r1
theorem find_now {kt : TypeId} {d : TypeDesc} {K : Value} (hu : P.underlying kt = some d) : ∀ {E : List MapEntry} {i : Nat} {R : Option (Nat × Value)}, Instr.findNow d K E i = some R →
    (Instr.findAsking kt K E i).run P w = .ok R w
  | [], i, R, h => by
    obtain rfl := Option.some.inj h
    rfl
  | x :: E, i, R, h => by
    unfold Instr.findNow at h
    cases he : Instr.sameNow d K x.key with
    | none => simp only [he] at h; cases h
    | some q =>
      simp only [he] at h
      have hq := same_run (P := P) (w := w) hu he
      cases q with
      | true =>
        obtain rfl := Option.some.inj h
        simp [Instr.findAsking, hq]
      | false =>
        have := find_now hu h
        simp [Instr.findAsking, hq]
        exact this
theorem find_sound {kt : TypeId} {d : TypeDesc} {k : AV} {K : Value} {es : Ents} {E : List MapEntry} {r : Option (Nat × AV × Nat)} (hu : P.underlying kt = some d) (hk : VR φ k K) (he : ERs φ es E) (h : findA P kt k es 0 = some r) :
    ∃ R, (Instr.findKey kt K E).run P w = .ok R w ∧ Found φ r R := by
  obtain ⟨R, r1, r2⟩ := find_asking (w := w) hk he h
  refine ⟨R, ?_, r2⟩
  cases hn : Instr.findNow d K E 0 with
  | none => simp [Instr.findKey, run_underlying hu, hn]; exact r1
  | some R' =>
    have := find_now (P := P) (w := w) hu hn
    rw [r1] at this
    injection this with h1
    subst h1
    simp [Instr.findKey, run_underlying hu, hn]
end
end
end Go.Proofs.YtifcganfcjildaaGreatDoor.E

/- Maps: looked up. -/
namespace Go.Proofs.YtifcganfcjildaaGreatDoor.E
open Go Go.RowKit
set_option linter.unusedVariables false
set_option linter.unusedSimpArgs false
set_option linter.unnecessarySimpa false
noncomputable section

section
variable {P : Program} {n0 : Nat} {w0 : World} {lm : Nat} {φ : Map} {s s' : HS} {w : World}
theorem check_plain {t : TypeId} {K : Value} (h : plainT P t = true) (em : Bool) (n : Nat) : (Instr.checkKey em (n + 1) t K).run P w = .ok () w := by
  unfold plainT at h
  cases hu : P.underlying t with
  | none => rw [hu] at h; cases h
  | some d =>
    rw [hu] at h
    unfold Instr.checkKey
    simp only [Sem.run_bind, run_underlying hu, Result.andThen]
    cases d <;> first
      | (cases h; done)
      | rfl
theorem check_fields {em : Bool} {n : Nat} {cs : List AV} {C : Array Value} (hc : VRs φ cs C.toList) : ∀ (l : List Field), partsOk P cs l = true →
    (forIn l PUnit.unit fun f (_ : PUnit) => (if f.name ≠ "_" then do
        let x ← Go.part f.type C f.offset
        Instr.checkKey em (n + 1) f.type x
        pure (ForInStep.yield PUnit.unit)
      else pure (ForInStep.yield PUnit.unit) : Sem (ForInStep PUnit))).run P w = .ok PUnit.unit w
  | [], _ => by simp
  | f :: l, h => by
    unfold partsOk at h
    simp only [Bool.and_eq_true, Bool.not_eq_true', beq_eq_false_iff_ne] at h
    obtain ⟨⟨⟨h1, h2⟩, h3⟩, h4⟩ := h
    obtain ⟨v, hv⟩ := Option.isSome_iff_exists.1 h3
    obtain ⟨x, x1, x2⟩ := part_get (P := P) (w := w) hc hv
    have ih := check_fields (em := em) (n := n) hc l h4
    simp only [List.forIn_cons]
    simp [h1, x1, check_plain h2]
    simpa using ih
theorem check_key {t : TypeId} {k : AV} {K : Value} (hk : VR φ k K) (h : keyV P t k = true) (em : Bool) (n : Nat) : (Instr.checkKey em (n + 2) t K).run P w = .ok () w := by
  unfold keyV at h
  cases hu : P.underlying t with
  | none => rw [hu] at h; cases h
  | some d =>
    rw [hu] at h
    cases d with
    | struct fs =>
      cases hk with
      | agg hc =>
        have hf := check_fields (P := P) (w := w) (em := em) (n := n) hc fs.toList h
        unfold Instr.checkKey
        simp only [Sem.run_bind, run_underlying hu, Result.andThen]
        rw [← Array.forIn_toList]
        rw [hf]
        rfl
      | _ => cases h
    | bool => exact check_plain (by unfold plainT; rw [hu]) em (n + 1)
    | int _ => exact check_plain (by unfold plainT; rw [hu]) em (n + 1)
    | string => exact check_plain (by unfold plainT; rw [hu]) em (n + 1)
    | _ => cases h
end
end
end Go.Proofs.YtifcganfcjildaaGreatDoor.E

