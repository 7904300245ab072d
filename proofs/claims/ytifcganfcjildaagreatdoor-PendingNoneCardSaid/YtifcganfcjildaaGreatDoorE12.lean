/- The operations that turn no heap. -/
import Derived.Laws.Tables
import Derived.Great.BuildSlice
import Derived.Test.YtifcganfcjildaaGreatDoorE11
namespace Go.Proofs.YtifcganfcjildaaGreatDoor.E
open Go Go.RowKit
set_option linter.unusedVariables false
set_option linter.unusedSimpArgs false
set_option linter.unnecessarySimpa false
noncomputable section

section
variable {P : Program} {φ : Map} {w : World}
/-- A value, the world as it was. -/
def Val (P : Program) (φ : Map) (w : World) (r : AV) (m : Sem Value) : Prop := ∃ V, m.run P w = .ok V w ∧ VR φ r V
theorem extract_sound {vs : List AV} {X : Value} {i : Nat} {r : AV} (hx : VR φ (.tup vs) X) (h : vs[i]? = some r) : Val P φ w r (Instr.extract X i) := by
  cases hx with
  | tup hvs =>
    obtain ⟨x, h1, h2⟩ := hvs.get i r h
    refine ⟨x, ?_, h2⟩
    rw [Array.getElem?_toList] at h1
    simp [Instr.extract, h1]
theorem iface_sound {t : TypeId} {d : TypeDesc} {x : AV} {X : Value} (hu : P.underlying t = some d) (hd : ∀ m, d ≠ .interface m) (hx : VR φ x X) : Val P φ w (.iface t x) (Instr.makeInterface t X) := by
  refine ⟨.iface t X, ?_, .iface hx⟩
  cases d <;> first
    | exact absurd rfl (hd _)
    | simp [Instr.makeInterface, run_underlying hu]
theorem fieldAt_sound {s : TypeId} {fs : Array Field} {x : Value} {h off f n : Nat} {fd : Field} (hu : P.underlying s = some (.struct fs)) (hf : fs[f]? = some fd) (hz : sz P fd.type = some (n + 1)) (hx : VR φ (.ptr h off) x) :
    Val P φ w (.ptr h (off + fd.offset)) (Instr.fieldAt s x f) := by
  cases hx with
  | @ptr _ _ p hp =>
    refine ⟨.pointer (some ⟨p.b, p.d + (off + fd.offset), none⟩), ?_, .ptr hp⟩
    have hs := run_sz hz w
    simp [Instr.fieldAt, run_underlying hu, hf, Instr.sureAddr, fieldPlace, hs, add_eq, Nat.add_assoc]
theorem field_sound {s : TypeId} {fs : Array Field} {x : Value} {cs : List AV} {f : Nat} {fd : Field} {r : AV} (hu : P.underlying s = some (.struct fs)) (hf : fs[f]? = some fd) (hp : part P fd.type cs fd.offset = some r) (hx : VR φ (.agg cs) x) :
    Val P φ w r (Instr.field s x f) := by
  cases hx with
  | agg hcs =>
    obtain ⟨y, y1, y2⟩ := part_get (P := P) (w := w) hcs hp
    exact ⟨y, by simp [Instr.field, run_underlying hu, hf, asAgg, y1], y2⟩
theorem indexAt_slice {t e : TypeId} {x : Value} {h off len es : Nat} {cap : Option Nat} {k : IntKind} {n : Int} (hu : P.underlying t = some (.slice e)) (hz : sz P e = some es) (h0 : 0 ≤ n) (h1 : n < (len : Int)) (hx : VR φ (.sl h off len es cap) x) :
    Val P φ w (.ptr h (off + n.toNat * es)) (Instr.indexAt t x (.int k n)) := by
  cases hx with
  | @sl _ _ _ _ c _ p hp hc hl hn _ =>
    refine ⟨.pointer (some ⟨p.b, p.d + (off + n.toNat * es), none⟩), ?_, .ptr hp⟩
    simp [Instr.indexAt, run_underlying hu, asIntOf, h0, h1, run_sz hz w, add_eq, Nat.add_assoc]
theorem indexAt_array {t e : TypeId} {x : Value} {h off len es : Nat} {k : IntKind} {n : Int} (hu : P.underlying t = some (.array len e)) (hz : sz P e = some es) (h0 : 0 ≤ n) (h1 : n < (len : Int)) (hx : VR φ (.ptr h off) x) :
    Val P φ w (.ptr h (off + n.toNat * es)) (Instr.indexAt t x (.int k n)) := by
  cases hx with
  | @ptr _ _ p hp =>
    refine ⟨.pointer (some ⟨p.b, p.d + (off + n.toNat * es), none⟩), ?_, .ptr hp⟩
    simp [Instr.indexAt, run_underlying hu, asIntOf, Instr.sureAddr, h0, h1, run_sz hz w, add_eq, Nat.add_assoc]
theorem index_string {t : TypeId} {x : Value} {s : List Nat} {k : IntKind} {n : Int} {c : Nat} (hu : P.underlying t = some .string) (h0 : 0 ≤ n) (hc : s[n.toNat]? = some c) (hx : VR φ (.str s) x) :
    Val P φ w (.int .u8 (Int.ofNat c)) (Instr.index t x (.int k n)) := by
  cases hx with
  | @str _ b he =>
    subst he
    rw [List.getElem?_map, Array.getElem?_toList] at hc
    cases hb : b.data[n.toNat]? with
    | none => rw [hb] at hc; cases hc
    | some u =>
      rw [hb] at hc
      obtain rfl := Option.some.inj hc
      have hb2 : b[n.toNat]? = some u := by
        rw [← hb]
        obtain ⟨hlt, he⟩ := Array.getElem?_eq_some_iff.1 hb
        rw [Array.getElem?_eq_getElem hlt]
        have hlt' : n.toNat < b.size := hlt
        rw [getElem?_pos b n.toNat hlt']
        rfl
      refine ⟨.int .u8 u.toNat, ?_, .int _ _⟩
      simp [Instr.index, run_underlying hu, asIntOf, h0, hb2]
theorem index_array {t e : TypeId} {x : Value} {cs : List AV} {len es : Nat} {k : IntKind} {n : Int} {r : AV} (hu : P.underlying t = some (.array len e)) (hz : sz P e = some es) (h0 : 0 ≤ n) (h1 : n < (len : Int)) (hp : part P e cs (n.toNat * es) = some r) (hx : VR φ (.agg cs) x) :
    Val P φ w r (Instr.index t x (.int k n)) := by
  cases hx with
  | agg hcs =>
    obtain ⟨y, y1, y2⟩ := part_get (P := P) (w := w) hcs hp
    exact ⟨y, by simp [Instr.index, run_underlying hu, asIntOf, h0, h1, run_sz hz w, y1], y2⟩
theorem unA_sound {op : UnOp} {x r : AV} {X : Value} (hx : VR φ x X) (h : unA op x = some r) : Val P φ w r (Op.unary op X) := by
  cases op <;> cases hx <;> first
    | (cases h; done)
    | (cases h
       exact ⟨.bool _, by simp [Op.unary], .bool _⟩)
    | (cases h
       exact ⟨.int _ _, by simp [Op.unary, Op.intArith], .int _ _⟩)
theorem assertA_sound {x r : AV} {X : Value} {xt asserted : TypeId} {ok : Bool} (hx : VR φ x X) (h : assertA P x asserted ok = some r) : Val P φ w r (Instr.typeAssert X xt asserted ok) := by
  unfold assertA at h
  cases hu : P.underlying asserted with
  | none => rw [hu] at h; cases h
  | some d =>
    rw [hu] at h
    dsimp only at h
    cases hi : isIface d with
    | true => rw [hi] at h; cases h
    | false =>
    rw [hi] at h
    have hd : ∀ m, d ≠ .interface m := by
      intro m hm
      subst hm
      cases hi
    have h2 : assertB P asserted x ok = some r := h
    clear h
    cases hx with
    | @iface t v V hv =>
      cases ok with
      | true =>
        cases hb : Nat.beq t asserted with
        | true =>
          simp only [assertB, hb] at h2
          obtain rfl := Option.some.inj h2
          have := Nat.eq_of_beq_eq_true hb
          subst this
          refine ⟨.tuple #[V, .bool true], ?_, .tup (.cons hv (.cons (.bool _) .nil))⟩
          cases d <;> first
            | exact absurd rfl (hd _)
            | simp [Instr.typeAssert, run_underlying hu]
        | false =>
          simp only [assertB, hb] at h2
          cases hz : zero P asserted with
          | none => simp only [hz] at h2; cases h2
          | some z =>
            simp only [hz] at h2
            obtain rfl := Option.some.inj h2
            obtain ⟨zv, z1, z2⟩ := zero_sound (φ := φ) hz w
            have hne : ¬ t = asserted := fun he => by subst he; simp at hb
            refine ⟨.tuple #[zv, .bool false], ?_, .tup (.cons z2 (.cons (.bool _) .nil))⟩
            cases d <;> first
              | exact absurd rfl (hd _)
              | simp [Instr.typeAssert, run_underlying hu, hne, z1]
      | false =>
        cases hb : Nat.beq t asserted with
        | true =>
          simp only [assertB, hb] at h2
          obtain rfl := Option.some.inj h2
          have := Nat.eq_of_beq_eq_true hb
          subst this
          refine ⟨V, ?_, hv⟩
          cases d <;> first
            | exact absurd rfl (hd _)
            | simp [Instr.typeAssert, run_underlying hu]
        | false => simp only [assertB, hb] at h2; cases h2
    | nili =>
      cases ok with
      | true =>
        cases hz : zero P asserted with
        | none => simp only [assertB, hz] at h2; cases h2
        | some z =>
          simp only [assertB, hz] at h2
          obtain rfl := Option.some.inj h2
          obtain ⟨zv, z1, z2⟩ := zero_sound (φ := φ) hz w
          refine ⟨.tuple #[zv, .bool false], ?_, .tup (.cons z2 (.cons (.bool _) .nil))⟩
          cases d <;> first
            | exact absurd rfl (hd _)
            | simp [Instr.typeAssert, run_underlying hu, z1]
      | false => cases h2
    | _ => cases ok <;> cases h2
theorem places_eq : ∀ {l : List Field} {k : List (Nat × Nat)}, placesA P l = some k → l.mapM (fun f => (P.info? f.type).map fun i => (f.offset, i.size)) = some k
  | [], k, h => by obtain rfl := Option.some.inj h; rfl
  | f :: l, k, h => by
    unfold placesA at h
    cases hz : sz P f.type with
    | none => rw [hz] at h; cases h
    | some n =>
      cases hp : placesA P l with
      | none => rw [hz, hp] at h; cases h
      | some r =>
        rw [hz, hp] at h
        obtain rfl := Option.some.inj h
        unfold sz at hz
        cases hi : P.info? f.type with
        | none => rw [hi] at hz; cases hz
        | some i =>
          rw [hi] at hz
          obtain rfl := Option.some.inj hz
          simp [List.mapM_cons, hi, places_eq hp]
theorem buildA_sound {t : TypeId} {z : AV} {ps : List (Nat × AV)} {qs : Array (Nat × Value)} {r : AV} (hz : zero P t = some z) (hz1 : ones (cellsA z) = true) (hp : PRs φ ps qs.toList) (h : buildA P t (cellsA z) ps = some r) : Val P φ w r (Instr.build t qs) := by
  have hz0 := hz
  unfold zero at hz0
  cases hi : P.info? t with
  | none => rw [hi] at hz0; cases hz0
  | some i =>
    obtain ⟨zv, hzv, hzr⟩ := zero_parts (φ := φ) hi hz
    have hzc := hzr.cells (ones_mem hz1)
    unfold buildA at h
    cases hu : P.underlying t with
    | none => rw [hu] at h; cases h
    | some d =>
      rw [hu] at h
      cases d with
      | struct fs =>
        dsimp only at h
        cases hpl : placesA P fs.toList with
        | none => rw [hpl] at h; cases h
        | some pl =>
          rw [hpl] at h
          dsimp only at h
          cases hf : fillA (fun i => pl[i]?) (cellsA z) ps with
          | none => rw [hf] at h; cases h
          | some cs =>
            rw [hf] at h
            obtain rfl := Option.some.inj h
            obtain ⟨C, c1, c2⟩ := fillA_sound hp hzc hf
            refine ⟨.agg C, run_build w t qs C ?_, .agg c2⟩
            unfold Program.built
            simp only [hi, hu, hzv, places_eq hpl]
            rw [← c1]
            congr 1
            funext j
            simp
      | array n e =>
        dsimp only at h
        cases hse : sz P e with
        | none => rw [hse] at h; cases h
        | some es =>
          rw [hse] at h
          dsimp only at h
          cases hf : fillA (fun i => some (i * es, es)) (cellsA z) ps with
          | none => rw [hf] at h; cases h
          | some cs =>
            rw [hf] at h
            obtain rfl := Option.some.inj h
            obtain ⟨C, c1, c2⟩ := fillA_sound hp hzc hf
            refine ⟨.agg C, run_build w t qs C ?_, .agg c2⟩
            unfold sz at hse
            cases hie : P.info? e with
            | none => rw [hie] at hse; cases hse
            | some ie =>
              rw [hie] at hse
              obtain rfl := Option.some.inj hse
              unfold Program.built
              simp only [hi, hu, hzv, hie]
              exact c1
      | _ => cases h
end
end
end Go.Proofs.YtifcganfcjildaaGreatDoor.E
