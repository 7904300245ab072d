/- Merged out of: E11, E12. -/
import Derived.Test.YtifcganfcjildaaGreatDoorE10
import Derived.Laws.Tables
import Derived.Great.BuildSlice
/- The builtins (but delete). -/
namespace Go.Proofs.YtifcganfcjildaaGreatDoor.E
open Go Go.RowKit
set_option linter.unusedVariables false
set_option linter.unusedSimpArgs false
set_option linter.unnecessarySimpa false
noncomputable section

/-- What a step answers that may turn the heap. -/
def Ans (P : Program) (n0 : Nat) (w0 : World) (lm : Nat) (φ : Map) (s s' : HS) (r : AV) (m : Sem Value) (w : World) : Prop :=
  ∃ ψ w' V, m.run P w = .ok V w' ∧ Ext s.next s'.next φ ψ ∧ Rel n0 w0 lm ψ s' w' ∧ VR ψ r V
section
variable {P : Program} {n0 : Nat} {w0 : World} {lm : Nat} {φ : Map} {s s' : HS} {w : World}
theorem Ans.pure {r : AV} {m : Sem Value} {V : Value} (h : Rel n0 w0 lm φ s w) (hm : m.run P w = .ok V w) (hv : VR φ r V) : Ans P n0 w0 lm φ s s r m w :=
  ⟨φ, w, V, hm, Ext.refl _ _ _, h, hv⟩
theorem lenB_sound (h : Rel n0 w0 lm φ s w) {ts : Array TypeId} {t ty : TypeId} {x r : AV} {X : Value} (ht : ts[0]? = some t) (hx : VR φ x X) (hr : (lenB P t x).run s = some (r, s')) : Ans P n0 w0 lm φ s s' r (Builtin.len_ ts ty #[X]) w := by
  unfold lenB at hr
  cases hu : P.underlying t with
  | none => rw [hu] at hr; cases hr
  | some u =>
    rw [hu] at hr
    cases u with
    | string =>
      cases hx with
      | str he =>
        obtain ⟨rfl, rfl⟩ := Fr.ret_run hr
        subst he
        refine Ans.pure h (V := .int .i64 _) ?_ (.int _ _)
        simp [Builtin.len_, ht, run_underlying hu, goInt]
      | _ => cases hr
    | array n e =>
      obtain ⟨rfl, rfl⟩ := Fr.ret_run hr
      refine Ans.pure h (V := .int .i64 n) ?_ (.int _ _)
      simp [Builtin.len_, ht, run_underlying hu, goInt]
    | slice e =>
      cases hx with
      | nils =>
        obtain ⟨rfl, rfl⟩ := Fr.ret_run hr
        refine Ans.pure h (V := .int .i64 0) ?_ (.int _ _)
        simp [Builtin.len_, ht, run_underlying hu, goInt]
      | emp hp hn _ =>
        obtain ⟨rfl, rfl⟩ := Fr.ret_run hr
        refine Ans.pure h (V := .int .i64 0) ?_ (.int _ _)
        simp [Builtin.len_, ht, run_underlying hu, goInt]
      | sl hp hc hl hn _ =>
        obtain ⟨rfl, rfl⟩ := Fr.ret_run hr
        refine Ans.pure h (V := .int .i64 _) ?_ (.int _ _)
        simp [Builtin.len_, ht, run_underlying hu, goInt]
      | _ => cases hr
    | map k e =>
      cases hx with
      | nilm =>
        obtain ⟨rfl, rfl⟩ := Fr.ret_run hr
        refine Ans.pure h (V := .int .i64 0) ?_ (.int _ _)
        simp [Builtin.len_, ht, run_underlying hu, goInt]
      | map hp =>
        obtain ⟨o, s1, h1, h2⟩ := Fr.bind_run hr
        obtain ⟨g1, g2, g3⟩ := Fr.get_run h1
        cases o with
        | map es c =>
          obtain ⟨rfl, rfl⟩ := Fr.ret_run h2
          obtain ⟨p, b, q1, q2, q3, q4, q5⟩ := h.objs _ _ g1 rfl
          obtain rfl := Option.some.inj (q1.symm.trans hp)
          cases q3 with
          | @map _ E _ _ he =>
            have hl : es.length = E.size := by
              have : ∀ {l : List (AV × AV × Nat)} {m : List MapEntry}, ERs φ l m → l.length = m.length := by
                intro l m hm
                induction hm with
                | nil => rfl
                | cons _ _ _ ih => simp [ih]
              rw [this he]; simp
            refine ⟨φ, w, .int .i64 es.length, ?_, by rw [g3]; exact Ext.refl _ _ _, h.heap g2 g3, .int _ _⟩
            have hg : (getObj p.b).run P w = .ok (.map E c) w := by simp [getObj, Sem.run, q2]
            simp [Builtin.len_, ht, run_underlying hu, goInt, hg, hl]
        | _ => cases h2
      | _ => cases hr
    | _ => cases hr
theorem capB_sound (h : Rel n0 w0 lm φ s w) {ts : Array TypeId} {t ty : TypeId} {x r : AV} {X : Value} (ht : ts[0]? = some t) (hx : VR φ x X) (hr : (capB P t x).run s = some (r, s')) : Ans P n0 w0 lm φ s s' r (Builtin.cap_ ts ty #[X]) w := by
  unfold capB at hr
  cases hu : P.underlying t with
  | none => rw [hu] at hr; cases hr
  | some u =>
    rw [hu] at hr
    cases u with
    | slice e =>
      cases hx with
      | nils =>
        obtain ⟨rfl, rfl⟩ := Fr.ret_run hr
        refine Ans.pure h (V := .int .i64 0) ?_ (.int _ _)
        simp [Builtin.cap_, ht, run_underlying hu, goInt]
      | @sl _ _ _ _ c cap _ hp hc hl hn _ =>
        cases cap with
        | none => cases hr
        | some c' =>
          obtain rfl := hc c' rfl
          obtain ⟨rfl, rfl⟩ := Fr.ret_run hr
          refine Ans.pure h (V := .int .i64 c) ?_ (.int _ _)
          simp [Builtin.cap_, ht, run_underlying hu, goInt]
      | _ => cases hr
    | _ => cases hr
theorem appendB_sound (h : Rel n0 w0 lm φ s w) {t tx ty : TypeId} {sv x r : AV} {S X : Value} (hs : VR φ sv S) (hx : VR φ x X) (hn : notNilm x = true) (hr : (appendB P t tx sv x).run s = some (r, s')) (hm : s'.next ≤ lm) : Ans P n0 w0 lm φ s s' r (Builtin.append_ #[t, tx] ty #[S, X]) w := by
  unfold appendB at hr
  cases hu : P.underlying t with
  | none => rw [hu] at hr; cases hr
  | some u =>
    rw [hu] at hr
    cases u with
    | slice e =>
      cases hv : P.underlying tx with
      | none => rw [hv] at hr; cases hr
      | some v =>
        rw [hv] at hr
        dsimp only at hr
        cases hst : srcT v with
        | false => rw [hst] at hr; cases hr
        | true =>
          rw [hst] at hr
          dsimp only at hr
          cases hi : P.info? e with
          | none => rw [hi] at hr; cases hr
          | some i =>
            rw [hi] at hr
            cases hz : zero P e with
            | none => rw [hz] at hr; cases hr
            | some z =>
              rw [hz] at hr
              cases hl : lenA x with
              | none => rw [hl] at hr; cases hr
              | some n =>
                rw [hl] at hr
                obtain ⟨new, s1, h1, h2⟩ := Fr.bind_run hr
                obtain ⟨hb, h3⟩ := cond_run h2
                rw [Bool.and_eq_true, Bool.and_eq_true] at hb
                have hnl := Nat.eq_of_beq_eq_true hb.1.1
                obtain ⟨r1, q1, q2, news, v1, v2, v3⟩ := readA_sound (P := P) h hx hl (Nat.le_refl _) h1 hnl
                have hkind : (∃ e', P.underlying tx = some (.slice e')) ∨ P.underlying tx = some .string := by
                  cases v with
                  | slice e' => exact .inl ⟨e', hv⟩
                  | string => exact .inr hv
                  | _ => cases hst
                have hsrc : Src P i.size tx X n news w := ⟨hkind, fun w' => lenA_sound hx hl (by rintro rfl; cases hn) w', v3 w rfl, v3 w.drew rfl, by rw [← v1.length]; exact hnl, v2⟩
                obtain ⟨ψ, w', V, a1, a2, a3, a4⟩ := appendA_sound (ty := ty) r1 hu hi hz (Nat.eq_of_beq_eq_true hb.1.2) hb.2 hs hsrc v1 h3 hm
                exact ⟨ψ, w', V, a1, by rw [← q2]; exact a2, a3, a4⟩
    | _ => cases hr
theorem copyB_sound (h : Rel n0 w0 lm φ s w) {ts : Array TypeId} {t ty : TypeId} {d x r : AV} {D X : Value} (ht : ts[0]? = some t) (hd : VR φ d D) (hx : VR φ x X) (hr : (copyB P t d x).run s = some (r, s')) : Ans P n0 w0 lm φ s s' r (Builtin.copy_ ts ty #[D, X]) w := by
  unfold copyB at hr
  cases hu : P.underlying t with
  | none => rw [hu] at hr; cases hr
  | some u =>
    rw [hu] at hr
    cases u with
    | slice e =>
      dsimp only at hr
      cases hz : sz P e with
      | none => rw [hz] at hr; cases hr
      | some es =>
        rw [hz] at hr
        cases hl : lenA x with
        | none => rw [hl] at hr; cases hr
        | some n =>
          rw [hl] at hr
          obtain ⟨hnm, hr2⟩ := cond_run hr
          cases hd with
          | @sl hh off len es' c cap p hp hc hl2 hn _ =>
            obtain ⟨src, s1, h1, h2⟩ := Fr.bind_run hr2
            obtain ⟨hb, h3⟩ := cond_run h2
            rw [Bool.and_eq_true, Bool.and_eq_true] at hb
            have := Nat.eq_of_beq_eq_true hb.1.1
            subst this
            have hlen := Nat.eq_of_beq_eq_true hb.1.2
            obtain ⟨r1, q1, q2, news, v1, v2, v3⟩ := readA_sound (P := P) h hx hl (Nat.min_le_left _ _) h1 hlen
            obtain ⟨cs, s2, k1, k2⟩ := Fr.bind_run h3
            obtain ⟨r2, g1, g2, g3, p', C, e0, hcs⟩ := ownCells_sound r1 k1
            obtain rfl := Option.some.inj (hcs.at_.symm.trans hp)
            cases hsp : splice cs off src with
            | none => rw [hsp] at k2; cases k2
            | some cs' =>
              rw [hsp] at k2
              obtain ⟨u, s3, k3, k4⟩ := Fr.bind_run k2
              obtain ⟨rfl, rfl⟩ := Fr.ret_run k4
              obtain ⟨a1, w', a2, a3⟩ := write_sound (P := P) r2 hcs (by rw [g1]; exact g3) hsp v1 (ones_mem hb.2) k3
              refine ⟨φ, w', .int .i64 (min n len : Nat), ?_, by rw [a1, g2, q2]; exact Ext.refl _ _ _, a3, .int _ _⟩
              have hln := lenA_sound (P := P) hx hl (by rintro rfl; cases hnm) w
              have hfc := v3 w rfl
              have e1 : n.min len = min n len := rfl
              simp [Builtin.copy_, ht, run_underlying hu, run_sz hz, hln, e1, hfc, a2, goInt]
          | _ => cases hr2
    | _ => cases hr
end
end
end Go.Proofs.YtifcganfcjildaaGreatDoor.E

/- The operations that turn no heap. -/
namespace Go.Proofs.YtifcganfcjildaaGreatDoor.E
open Go Go.RowKit
set_option linter.unusedVariables false
set_option linter.unusedSimpArgs false
set_option linter.unnecessarySimpa false
noncomputable section

section
variable {P : Program} {φ : Map} {w : World}
/-- A value, the world as it was. -/
def Val (P : Program) (φ : Map) (w : World) (r : AV) (m : Sem Value) : Prop := ∃ V, m.run P w = .ok V w ∧ VR φ r V
theorem extract_sound {vs : List AV} {X : Value} {i : Nat} {r : AV} (hx : VR φ (.tup vs) X) (h : vs[i]? = some r) : Val P φ w r (Instr.extract X i) := by
  cases hx with
  | tup hvs =>
    obtain ⟨x, h1, h2⟩ := hvs.get i r h
    refine ⟨x, ?_, h2⟩
    rw [Array.getElem?_toList] at h1
    simp [Instr.extract, h1]
theorem iface_sound {t : TypeId} {d : TypeDesc} {x : AV} {X : Value} (hu : P.underlying t = some d) (hd : ∀ m, d ≠ .interface m) (hx : VR φ x X) : Val P φ w (.iface t x) (Instr.makeInterface t X) := by
  refine ⟨.iface t X, ?_, .iface hx⟩
  cases d <;> first
    | exact absurd rfl (hd _)
    | simp [Instr.makeInterface, run_underlying hu]
theorem fieldAt_sound {s : TypeId} {fs : Array Field} {x : Value} {h off f n : Nat} {fd : Field} (hu : P.underlying s = some (.struct fs)) (hf : fs[f]? = some fd) (hz : sz P fd.type = some (n + 1)) (hx : VR φ (.ptr h off) x) :
    Val P φ w (.ptr h (off + fd.offset)) (Instr.fieldAt s x f) := by
  cases hx with
  | @ptr _ _ p hp =>
    refine ⟨.pointer (some ⟨p.b, p.d + (off + fd.offset), none⟩), ?_, .ptr hp⟩
    have hs := run_sz hz w
    simp [Instr.fieldAt, run_underlying hu, hf, Instr.sureAddr, fieldPlace, hs, add_eq, Nat.add_assoc]
theorem field_sound {s : TypeId} {fs : Array Field} {x : Value} {cs : List AV} {f : Nat} {fd : Field} {r : AV} (hu : P.underlying s = some (.struct fs)) (hf : fs[f]? = some fd) (hp : part P fd.type cs fd.offset = some r) (hx : VR φ (.agg cs) x) :
    Val P φ w r (Instr.field s x f) := by
  cases hx with
  | agg hcs =>
    obtain ⟨y, y1, y2⟩ := part_get (P := P) (w := w) hcs hp
    exact ⟨y, by simp [Instr.field, run_underlying hu, hf, asAgg, y1], y2⟩
theorem indexAt_slice {t e : TypeId} {x : Value} {h off len es : Nat} {cap : Option Nat} {k : IntKind} {n : Int} (hu : P.underlying t = some (.slice e)) (hz : sz P e = some es) (h0 : 0 ≤ n) (h1 : n < (len : Int)) (hx : VR φ (.sl h off len es cap) x) :
    Val P φ w (.ptr h (off + n.toNat * es)) (Instr.indexAt t x (.int k n)) := by
  cases hx with
  | @sl _ _ _ _ c _ p hp hc hl hn _ =>
    refine ⟨.pointer (some ⟨p.b, p.d + (off + n.toNat * es), none⟩), ?_, .ptr hp⟩
    simp [Instr.indexAt, run_underlying hu, asIntOf, h0, h1, run_sz hz w, add_eq, Nat.add_assoc]
theorem indexAt_array {t e : TypeId} {x : Value} {h off len es : Nat} {k : IntKind} {n : Int} (hu : P.underlying t = some (.array len e)) (hz : sz P e = some es) (h0 : 0 ≤ n) (h1 : n < (len : Int)) (hx : VR φ (.ptr h off) x) :
    Val P φ w (.ptr h (off + n.toNat * es)) (Instr.indexAt t x (.int k n)) := by
  cases hx with
  | @ptr _ _ p hp =>
    refine ⟨.pointer (some ⟨p.b, p.d + (off + n.toNat * es), none⟩), ?_, .ptr hp⟩
    simp [Instr.indexAt, run_underlying hu, asIntOf, Instr.sureAddr, h0, h1, run_sz hz w, add_eq, Nat.add_assoc]
theorem index_string {t : TypeId} {x : Value} {s : List Nat} {k : IntKind} {n : Int} {c : Nat} (hu : P.underlying t = some .string) (h0 : 0 ≤ n) (hc : s[n.toNat]? = some c) (hx : VR φ (.str s) x) :
    Val P φ w (.int .u8 (Int.ofNat c)) (Instr.index t x (.int k n)) := by
  cases hx with
  | @str _ b he =>
    subst he
    rw [List.getElem?_map, Array.getElem?_toList] at hc
    cases hb : b.data[n.toNat]? with
    | none => rw [hb] at hc; cases hc
    | some u =>
      rw [hb] at hc
      obtain rfl := Option.some.inj hc
      have hb2 : b[n.toNat]? = some u := by
        rw [← hb]
        obtain ⟨hlt, he⟩ := Array.getElem?_eq_some_iff.1 hb
        rw [Array.getElem?_eq_getElem hlt]
        have hlt' : n.toNat < b.size := hlt
        rw [getElem?_pos b n.toNat hlt']
        rfl
      refine ⟨.int .u8 u.toNat, ?_, .int _ _⟩
      simp [Instr.index, run_underlying hu, asIntOf, h0, hb2]
theorem index_array {t e : TypeId} {x : Value} {cs : List AV} {len es : Nat} {k : IntKind} {n : Int} {r : AV} (hu : P.underlying t = some (.array len e)) (hz : sz P e = some es) (h0 : 0 ≤ n) (h1 : n < (len : Int)) (hp : part P e cs (n.toNat * es) = some r) (hx : VR φ (.agg cs) x) :
    Val P φ w r (Instr.index t x (.int k n)) := by
  cases hx with
  | agg hcs =>
    obtain ⟨y, y1, y2⟩ := part_get (P := P) (w := w) hcs hp
    exact ⟨y, by simp [Instr.index, run_underlying hu, asIntOf, h0, h1, run_sz hz w, y1], y2⟩
theorem unA_sound {op : UnOp} {x r : AV} {X : Value} (hx : VR φ x X) (h : unA op x = some r) : Val P φ w r (Op.unary op X) := by
  cases op <;> cases hx <;> first
    | (cases h; done)
    | (cases h
       exact ⟨.bool _, by simp [Op.unary], .bool _⟩)
    | (cases h
       exact ⟨.int _ _, by simp [Op.unary, Op.intArith], .int _ _⟩)
theorem assertA_sound {x r : AV} {X : Value} {xt asserted : TypeId} {ok : Bool} (hx : VR φ x X) (h : assertA P x asserted ok = some r) : Val P φ w r (Instr.typeAssert X xt asserted ok) := by
  unfold assertA at h
  cases hu : P.underlying asserted with
  | none => rw [hu] at h; cases h
  | some d =>
    rw [hu] at h
    dsimp only at h
    cases hi : isIface d with
    | true => rw [hi] at h; cases h
    | false =>
    rw [hi] at h
    have hd : ∀ m, d ≠ .interface m := by
      intro m hm
      subst hm
      cases hi
    have h2 : assertB P asserted x ok = some r := h
    clear h
    cases hx with
    | @iface t v V hv =>
      cases ok with
      | true =>
        cases hb : Nat.beq t asserted with
        | true =>
          simp only [assertB, hb] at h2
          obtain rfl := Option.some.inj h2
          have := Nat.eq_of_beq_eq_true hb
          subst this
          refine ⟨.tuple #[V, .bool true], ?_, .tup (.cons hv (.cons (.bool _) .nil))⟩
          cases d <;> first
            | exact absurd rfl (hd _)
            | simp [Instr.typeAssert, run_underlying hu]
        | false =>
          simp only [assertB, hb] at h2
          cases hz : zero P asserted with
          | none => simp only [hz] at h2; cases h2
          | some z =>
            simp only [hz] at h2
            obtain rfl := Option.some.inj h2
            obtain ⟨zv, z1, z2⟩ := zero_sound (φ := φ) hz w
            have hne : ¬ t = asserted := fun he => by subst he; simp at hb
            refine ⟨.tuple #[zv, .bool false], ?_, .tup (.cons z2 (.cons (.bool _) .nil))⟩
            cases d <;> first
              | exact absurd rfl (hd _)
              | simp [Instr.typeAssert, run_underlying hu, hne, z1]
      | false =>
        cases hb : Nat.beq t asserted with
        | true =>
          simp only [assertB, hb] at h2
          obtain rfl := Option.some.inj h2
          have := Nat.eq_of_beq_eq_true hb
          subst this
          refine ⟨V, ?_, hv⟩
          cases d <;> first
            | exact absurd rfl (hd _)
            | simp [Instr.typeAssert, run_underlying hu]
        | false => simp only [assertB, hb] at h2; cases h2
    | nili =>
      cases ok with
      | true =>
        cases hz : zero P asserted with
        | none => simp only [assertB, hz] at h2; cases h2
        | some z =>
          simp only [assertB, hz] at h2
          obtain rfl := Option.some.inj h2
          obtain ⟨zv, z1, z2⟩ := zero_sound (φ := φ) hz w
          refine ⟨.tuple #[zv, .bool false], ?_, .tup (.cons z2 (.cons (.bool _) .nil))⟩
          cases d <;> first
            | exact absurd rfl (hd _)
            | simp [Instr.typeAssert, run_underlying hu, z1]
      | false => cases h2
    | _ => cases ok <;> cases h2
theorem places_eq : ∀ {l : List Field} {k : List (Nat × Nat)}, placesA P l = some k → l.mapM (fun f => (P.info? f.type).map fun i => (f.offset, i.size)) = some k
  | [], k, h => by obtain rfl := Option.some.inj h; rfl
  | f :: l, k, h => by
    unfold placesA at h
    cases hz : sz P f.type with
    | none => rw [hz] at h; cases h
    | some n =>
      cases hp : placesA P l with
      | none => rw [hz, hp] at h; cases h
      | some r =>
        rw [hz, hp] at h
        obtain rfl := Option.some.inj h
        unfold sz at hz
        cases hi : P.info? f.type with
        | none => rw [hi] at hz; cases hz
        | some i =>
          rw [hi] at hz
          obtain rfl := Option.some.inj hz
          simp [List.mapM_cons, hi, places_eq hp]
theorem buildA_sound {t : TypeId} {z : AV} {ps : List (Nat × AV)} {qs : Array (Nat × Value)} {r : AV} (hz : zero P t = some z) (hz1 : ones (cellsA z) = true) (hp : PRs φ ps qs.toList) (h : buildA P t (cellsA z) ps = some r) : Val P φ w r (Instr.build t qs) := by
  have hz0 := hz
  unfold zero at hz0
  cases hi : P.info? t with
  | none => rw [hi] at hz0; cases hz0
  | some i =>
    obtain ⟨zv, hzv, hzr⟩ := zero_parts (φ := φ) hi hz
    have hzc := hzr.cells (ones_mem hz1)
    unfold buildA at h
    cases hu : P.underlying t with
    | none => rw [hu] at h; cases h
    | some d =>
      rw [hu] at h
      cases d with
      | struct fs =>
        dsimp only at h
        cases hpl : placesA P fs.toList with
        | none => rw [hpl] at h; cases h
        | some pl =>
          rw [hpl] at h
          dsimp only at h
          cases hf : fillA (fun i => pl[i]?) (cellsA z) ps with
          | none => rw [hf] at h; cases h
          | some cs =>
            rw [hf] at h
            obtain rfl := Option.some.inj h
            obtain ⟨C, c1, c2⟩ := fillA_sound hp hzc hf
            refine ⟨.agg C, run_build w t qs C ?_, .agg c2⟩
            unfold Program.built
            simp only [hi, hu, hzv, places_eq hpl]
            rw [← c1]
            congr 1
            funext j
            simp
      | array n e =>
        dsimp only at h
        cases hse : sz P e with
        | none => rw [hse] at h; cases h
        | some es =>
          rw [hse] at h
          dsimp only at h
          cases hf : fillA (fun i => some (i * es, es)) (cellsA z) ps with
          | none => rw [hf] at h; cases h
          | some cs =>
            rw [hf] at h
            obtain rfl := Option.some.inj h
            obtain ⟨C, c1, c2⟩ := fillA_sound hp hzc hf
            refine ⟨.agg C, run_build w t qs C ?_, .agg c2⟩
            unfold sz at hse
            cases hie : P.info? e with
            | none => rw [hie] at hse; cases hse
            | some ie =>
              rw [hie] at hse
              obtain rfl := Option.some.inj hse
              unfold Program.built
              simp only [hi, hu, hzv, hie]
              exact c1
      | _ => cases h
end
end
end Go.Proofs.YtifcganfcjildaaGreatDoor.E

