/- Merged out of: E13, E14. -/
import Derived.Test.YtifcganfcjildaaGreatDoorE12
/- Rows made; a part of an array; clear; the greatest and the least. -/
namespace Go.Proofs.YtifcganfcjildaaGreatDoor.E
open Go Go.RowKit
set_option linter.unusedVariables false
set_option linter.unusedSimpArgs false
set_option linter.unnecessarySimpa false
noncomputable section

section
variable {P : Program} {n0 : Nat} {w0 : World} {lm : Nat} {φ : Map} {s s' : HS} {w : World}
theorem newSl_sound (h : Rel n0 w0 lm φ s w) {l : List AV} {L : List Value} {len c es : Nat} {e : TypeId} {r : AV} (hl : VRs φ l L) (h1 : ∀ v ∈ l, v.one = true) (hlen : l.length = c * es) (hle : len ≤ c)
    (hr : (newSl l len es c).run s = some (r, s')) (hm : s'.next ≤ lm) {C : Array Value} (hC : C.toList = L) :
    ∃ ψ, Ext s.next s'.next φ ψ ∧ Rel n0 w0 lm ψ s' (w.alloc (.cells C e)) ∧ VR ψ r (.slice (some ⟨w.heap.size, 0, none⟩) len c) := by
  obtain ⟨g, s1, k1, k2⟩ := Fr.bind_run hr
  obtain ⟨rfl, rfl⟩ := Fr.ret_run k2
  have hll := hl.length
  have hsz : C.size = c * es := by
    have : C.toList.length = _ := congrArg List.length hC
    rw [Array.length_toList, ← hll, hlen] at this
    exact this
  obtain ⟨e1, e2, e3, e4⟩ := h.new k1 hm (.cells C e) 0 C.size rfl (.cells rfl (by simp; omega) (by
    have e0 : seg C 0 l.length = L := by unfold seg; rw [List.drop_zero, hC, hll, List.take_length]
    rw [e0]; exact hl.mono (h.ext_add (by have := (Fr.new_run k1).2.1; omega) _).le) h1)
  refine ⟨_, e3, e4, ?_⟩
  have := VR.sl (φ := φ.add s.next ⟨w.heap.size, 0, C.size⟩) (h := g) (off := 0) (len := len) (es := es) (c := c) (cap := some c) (p := ⟨w.heap.size, 0, C.size⟩) (by rw [e1]; simp [Map.add]) (fun k hk => Option.some.inj hk) hle (by simp [hsz]) (fun k => by cases k)
  simpa using this
theorem fillA_length {place : Nat → Option (Nat × Nat)} : ∀ {l : List (Nat × AV)} {cs cs' : List AV}, fillA place cs l = some cs' → cs'.length = cs.length
  | [], cs, cs', h => by obtain rfl := Option.some.inj h; rfl
  | (i, v) :: l, cs, cs', h => by
    unfold fillA at h
    cases hp : place i with
    | none => rw [hp] at h; cases h
    | some q =>
      obtain ⟨off, s⟩ := q
      rw [hp] at h
      dsimp only at h
      cases hb : (Nat.beq (cellsA v).length s && ones (cellsA v)) with
      | false => rw [hb] at h; cases h
      | true =>
        rw [hb] at h
        dsimp only [cd_true] at h
        cases hs : splice cs off (cellsA v) with
        | none => rw [hs] at h; cases h
        | some c =>
          rw [hs] at h
          obtain ⟨h1, rfl⟩ := splice_eq hs
          rw [fillA_length h]
          simp; omega
theorem buildSl_sound (h : Rel n0 w0 lm φ s w) {t : TypeId} {n : Nat} {ps : List (Nat × AV)} {qs : Array (Nat × Value)} {r : AV} (hp : PRs φ ps qs.toList) (hr : (buildSl P t n ps).run s = some (r, s')) (hm : s'.next ≤ lm) :
    Ans P n0 w0 lm φ s s' r (Instr.buildSlice t n qs) w := by
  unfold buildSl at hr
  cases hu : P.underlying t with
  | none => rw [hu] at hr; cases hr
  | some d =>
    rw [hu] at hr
    cases d with
    | slice e =>
      dsimp only at hr
      cases hz : sz P e with
      | none => rw [hz] at hr; cases hr
      | some sz0 =>
        rw [hz] at hr
        cases hze : zero P e with
        | none => rw [hze] at hr; cases hr
        | some z =>
          rw [hze] at hr
          dsimp only at hr
          have hz2 := hz
          unfold sz at hz
          cases hie : P.info? e with
          | none => rw [hie] at hz; cases hz
          | some i =>
            rw [hie] at hz
            obtain rfl : i.size = sz0 := Option.some.inj hz
            obtain ⟨zv, hzv, hzr⟩ := zero_parts (φ := φ) hie hze
            cases hb : Nat.beq (n * i.size) 0 with
            | true =>
              rw [hb] at hr
              have h0 : n * i.size = 0 := Nat.eq_of_beq_eq_true hb
              cases ps with
              | cons _ _ => cases hr
              | nil =>
                have hq : qs = #[] := by
                  cases hql : qs.toList with
                  | nil => exact Array.toList_eq_nil_iff.1 hql
                  | cons a b => rw [hql] at hp; cases hp
                subst hq
                obtain ⟨ψ, a1, a2, a3⟩ := newSl_sound (e := e) (C := #[]) h .nil (fun _ hv => by cases hv) (by simp [h0]) (Nat.le_refl _) hr hm rfl
                refine ⟨ψ, _, _, ?_, a1, a2, a3⟩
                simp [Instr.buildSlice, run_underlying hu, run_sz hz2, h0, Instr.fill, newRow, Array.range_zero']
            | false =>
              rw [hb] at hr
              have h0 : ¬ n * i.size = 0 := fun he => by rw [he] at hb; cases hb
              obtain ⟨hc, hr2⟩ := cond_run hr
              rw [Bool.and_eq_true, Bool.and_eq_true] at hc
              have hzl := Nat.eq_of_beq_eq_true hc.1.1
              have hfew := few_le hc.1.2
              have hz1 := ones_mem hc.2
              have hzc := hzr.cells hz1
              have hzs : zv.cells.size = i.size := by have := hzc.length; simp at this; omega
              cases hf : fillA (fun j => some (j * i.size, i.size)) (rep (cellsA z) n) ps with
              | none => rw [hf] at hr2; cases hr2
              | some cs =>
                rw [hf] at hr2
                obtain ⟨ho, hr3⟩ := cond_run hr2
                obtain ⟨C, c1, c2⟩ := fillA_sound (C := (Array.range (n * i.size)).map (fun j => zv.cells[j % zv.cells.size]!)) hp (by rw [zeros_list _ _ _ hzs]; exact rep_sound hzc n) hf
                obtain ⟨ψ, a1, a2, a3⟩ := newSl_sound (e := e) (C := C) h c2 (ones_mem ho) (by rw [fillA_length hf, rep_length, hzl]) (Nat.le_refl _) hr3 hm rfl
                exact ⟨ψ, _, _, run_buildSlice w t e n qs C i zv hu hie hzv (by omega) h0 c1, a1, a2, a3⟩
    | _ => cases hr
theorem makeSl_sound (h : Rel n0 w0 lm φ s w) {t : TypeId} {a b r : AV} {A B : Value} (ha : VR φ a A) (hb : VR φ b B) (hr : (makeSl P t a b).run s = some (r, s')) (hm : s'.next ≤ lm) :
    Ans P n0 w0 lm φ s s' r (Instr.makeSlice t A B) w := by
  unfold makeSl at hr
  cases hu : P.underlying t with
  | none => rw [hu] at hr; cases hr
  | some d =>
    rw [hu] at hr
    cases d with
    | slice e =>
      cases ha with
      | int kl l =>
        cases hb with
        | int kc c =>
          dsimp only at hr
          cases hie : P.info? e with
          | none => rw [hie] at hr; cases hr
          | some i =>
            rw [hie] at hr
            cases hze : zero P e with
            | none => rw [hze] at hr; cases hr
            | some z =>
              rw [hze] at hr
              obtain ⟨hc, hr2⟩ := cond_run hr
              simp only [Bool.and_eq_true, decide_eq_true_eq] at hc
              obtain ⟨⟨⟨⟨⟨⟨l0, lc⟩, fc⟩, fb⟩, fs⟩, hzl⟩, ho⟩ := hc
              have hzl := Nat.eq_of_beq_eq_true hzl
              have fc := few_le fc
              have fb := few_le fb
              have fs := few_le fs
              obtain ⟨zv, hzv, hzr⟩ := zero_parts (φ := φ) hie hze
              have hzc := hzr.cells (ones_mem ho)
              have hzs : zv.cells.size = i.size := by have := hzc.length; simp at this; omega
              obtain ⟨ψ, a1, a2, a3⟩ := newSl_sound (e := e) (C := madeCells zv.cells (c.toNat * i.size)) h (rep_sound hzc c.toNat) (rep_ones (ones_mem ho) _) (by rw [rep_length, hzl]) (by omega) hr2 hm (by unfold madeCells; exact zeros_list _ _ _ hzs)
              have hbytes : (i.bytes : Int) * c ≤ 281474976710656 := by
                have h1 : i.bytes * c.toNat ≤ 1000000 * 1000000 := Nat.mul_le_mul fb fc
                have h2 : ((i.bytes * c.toNat : Nat) : Int) = (i.bytes : Int) * c := by rw [Int.natCast_mul, Int.toNat_of_nonneg (by omega)]
                omega
              exact ⟨ψ, _, _, run_makeSlice w t e i zv hu hie hzv kl kc l c l0 lc (by omega) hbytes (by omega), a1, a2, a3⟩
        | _ => cases hr
      | _ => cases hr
    | _ => cases hr
end
end
end Go.Proofs.YtifcganfcjildaaGreatDoor.E

/- A part of an array; clear; the greatest and the least. -/
namespace Go.Proofs.YtifcganfcjildaaGreatDoor.E
open Go Go.RowKit
set_option linter.unusedVariables false
set_option linter.unusedSimpArgs false
set_option linter.unnecessarySimpa false
noncomputable section

section
variable {P : Program} {n0 : Nat} {w0 : World} {lm : Nat} {φ : Map} {s s' : HS} {w : World}
theorem sliceArr_sound (h : Rel n0 w0 lm φ s w) {N : Nat} {T : Temps} {a : Act} (hf : FRel N φ T a) {t e : TypeId} {k : Nat} (hu : P.underlying t = some (.array k e)) {lo hi mx : Option Operand} (hmx : maxed hi mx = true) {b off : Nat} {X : Value} {r : AV} (hx : VR φ (.ptr b off) X)
    (hr : (sliceArr P T k e b off lo hi mx).run s = some (r, s')) : Ans P n0 w0 lm φ s s' r (Instr.sliceAt t X (lo.map a.eval) (hi.map a.eval) (mx.map a.eval)) w := by
  unfold sliceArr at hr
  cases hz : sz P e with
  | none => rw [hz] at hr; cases hr
  | some n =>
    rw [hz] at hr
    obtain ⟨cs, s1, h1, h2⟩ := Fr.bind_run hr
    obtain ⟨r1, g1, g2, p, C, e0, hc⟩ := cellsOf_sound h h1
    obtain ⟨hb, h3⟩ := cond_run h2
    have hfit := Nat.le_of_ble_eq_true hb
    cases hm : boundO T k k mx with
    | none => rw [hm] at h3; cases h3
    | some m =>
      rw [hm] at h3
      dsimp only at h3
      cases hh : boundO T k m hi with
      | none => rw [hh] at h3; cases h3
      | some hv =>
        rw [hh] at h3
        dsimp only at h3
        cases hl : boundO T 0 hv lo with
        | none => rw [hl] at h3; cases h3
        | some l =>
          rw [hl] at h3
          obtain ⟨rfl, rfl⟩ := Fr.ret_run h3
          cases hx with
          | @ptr _ _ q hp =>
            obtain rfl := Option.some.inj (hc.at_.symm.trans hp)
            obtain ⟨b1, b2, b3, b4, b5, b6⟩ := bounds_sound (P := P) hf (isS := false) (Nat.le_refl k) hmx hm hh hl (fun _ _ => trivial) w
            have hmm : (if mx.isSome = true then m else k) = m := by
              cases mx with
              | none => rw [b5 rfl]; rfl
              | some _ => rfl
            rw [hmm] at b1
            have hvm : hv ≤ m := by
              cases hi with
              | some _ => exact b2 rfl
              | none =>
                cases mx with
                | none => rw [b5 rfl, b6 rfl]; exact Nat.le_refl _
                | some _ => cases hmx
            have hd := hc.fits
            have hmk : m * n ≤ k * n := Nat.mul_le_mul_right _ b3
            by_cases c : m = l
            · have cb : Nat.beq m l = true := by rw [c]; exact Nat.beq_refl l
              refine ⟨φ, w, .slice (some ⟨p.b, p.d + off, none⟩) (hv - l) (m - l), ?_, by rw [g2]; exact Ext.refl _ _ _, r1, ?_⟩
              · simp [Instr.sliceAt, run_underlying hu, Instr.sureAddr, b1, run_sz hz w, c]
              · rw [cb]
                exact .sl hp (fun j hj => Option.some.inj hj) (by omega) (by rw [c, Nat.sub_self, Nat.zero_mul]; show p.d + off + 0 ≤ p.n; omega) (fun k => by cases k)
            · have cb : Nat.beq m l = false := by
                cases hbb : Nat.beq m l with
                | false => rfl
                | true => exact absurd (Nat.eq_of_beq_eq_true hbb) c
              refine ⟨φ, w, .slice (some ⟨p.b, p.d + (off + l * n), none⟩) (hv - l) (m - l), ?_, by rw [g2]; exact Ext.refl _ _ _, r1, ?_⟩
              · simp [Instr.sliceAt, run_underlying hu, Instr.sureAddr, b1, run_sz hz w, c, add_eq, Nat.add_assoc]
              · rw [cb]
                have hs : l * n + (m - l) * n = m * n := by rw [← Nat.add_mul]; congr 1; omega
                exact .sl hp (fun j hj => Option.some.inj hj) (by omega) (by show p.d + (off + l * n) + (m - l) * n ≤ p.n; omega) (fun k => by cases k)
theorem clearB_sound (h : Rel n0 w0 lm φ s w) {ts : Array TypeId} {t ty : TypeId} {x r : AV} {X : Value} (ht : ts[0]? = some t) (hx : VR φ x X) (hr : (clearB P t x).run s = some (r, s')) : Ans P n0 w0 lm φ s s' r (Builtin.clear_ ts ty #[X]) w := by
  unfold clearB at hr
  cases hu : P.underlying t with
  | none => rw [hu] at hr; cases hr
  | some d =>
    rw [hu] at hr
    cases d with
    | slice e =>
      cases hx with
      | nils =>
        obtain ⟨rfl, rfl⟩ := Fr.ret_run hr
        refine Ans.pure h (V := .tuple #[]) ?_ (.tup .nil)
        simp [Builtin.clear_, ht, run_underlying hu]
      | @sl hh off len es c cap p hp hc hl hn _ =>
        cases len with
        | zero =>
          obtain ⟨rfl, rfl⟩ := Fr.ret_run hr
          refine Ans.pure h (V := .tuple #[]) ?_ (.tup .nil)
          simp [Builtin.clear_, ht, run_underlying hu]
        | succ n =>
          dsimp only at hr
          cases hz : zero P e with
          | none => rw [hz] at hr; cases hr
          | some z =>
            rw [hz] at hr
            obtain ⟨hb, hr2⟩ := cond_run hr
            rw [Bool.and_eq_true] at hb
            have hzl := Nat.eq_of_beq_eq_true hb.1
            have hz1 := ones_mem hb.2
            obtain ⟨zv, z1, z2⟩ := zero_sound (φ := φ) hz w
            have hzc := z2.cells hz1
            have hzs : zv.cells.size = es := by have := hzc.length; simp at this; omega
            obtain ⟨cs, s1, k1, k2⟩ := Fr.bind_run hr2
            obtain ⟨r1, q1, q2, q3, p', C, e0, hcs⟩ := ownCells_sound h k1
            obtain rfl := Option.some.inj (hcs.at_.symm.trans hp)
            cases hsp : splice cs off (rep (cellsA z) (n + 1)) with
            | none => rw [hsp] at k2; cases k2
            | some cs' =>
              rw [hsp] at k2
              obtain ⟨u, s3, k3, k4⟩ := Fr.bind_run k2
              obtain ⟨rfl, rfl⟩ := Fr.ret_run k4
              have hv : VRs φ (rep (cellsA z) (n + 1)) (Builtin.zeroCells zv.cells (n + 1)).toList := by
                unfold Builtin.zeroCells
                have : n + 1 = n + 1 := rfl
                rw [hzs]
                rw [← hzs, zeros_list _ _ _ rfl]
                exact rep_sound hzc (n + 1)
              obtain ⟨a1, w', a2, a3⟩ := write_sound (P := P) r1 hcs (by rw [q1]; exact q3) hsp hv (rep_ones hz1 _) k3
              refine ⟨φ, w', .tuple #[], ?_, by rw [a1, q2]; exact Ext.refl _ _ _, a3, .tup .nil⟩
              simp [Builtin.clear_, ht, run_underlying hu, z1, a2]
      | _ => cases hr
    | _ => cases hr
theorem maxG_sound {mx : Bool} {k : IntKind} : ∀ {l : List AV} {L : List Value} {a : Int} {r : AV}, VRs φ l L → maxG mx k a l = some r →
    ∃ R, (L.foldlM (if mx then Builtin.max2 else Builtin.min2) (.int k a)).run P w = .ok R w ∧ VR φ r R
  | [], _, a, r, .nil, h => by
    obtain rfl := Option.some.inj h
    exact ⟨_, rfl, .int _ _⟩
  | v :: l, _ :: L, a, r, .cons hv hl, h => by
    cases hv with
    | int k' b =>
      obtain ⟨R, r1, r2⟩ := maxG_sound hl h
      refine ⟨R, ?_, r2⟩
      rw [List.foldlM_cons]
      cases mx with
      | true =>
        simp only [if_true] at r1 ⊢
        simp [Builtin.max2]
        exact r1
      | false =>
        simp only [Bool.false_eq_true, if_false] at r1 ⊢
        simp [Builtin.min2]
        exact r1
    | _ => cases h
end
end
end Go.Proofs.YtifcganfcjildaaGreatDoor.E

