/- One operation of the machine over names, and the same in a world: reads, stores, blocks made. -/
import Derived.Laws.CopyRow
import Derived.Laws.Cells
import Derived.Laws.Entries
import Derived.Calls
import Derived.Test.YtifcganfcjildaaGreatDoorE3
namespace Go.Proofs.YtifcganfcjildaaGreatDoor.E
open Go Go.RowKit
set_option linter.unusedVariables false
set_option linter.unusedSimpArgs false
set_option linter.unnecessarySimpa false
noncomputable section

theorem scal_sound {φ : Map} {v : Value} {a : AV} (h : scal v = some a) : VR φ a v := by
  unfold scal at h
  simp only [seqS_eq] at h
  split at h <;> first
    | (obtain rfl := Option.some.inj h; first | exact .bool _ | exact .int _ _ | exact .str rfl | exact .nilp | exact .nils | exact .nilm | exact .nilf | exact .nili)
    | cases h
theorem scals_sound {φ : Map} : ∀ {l : List Value} {k : List AV}, scals l = some k → VRs φ k l
  | [], k, h => by obtain rfl := Option.some.inj h; exact .nil
  | v :: l, k, h => by
    unfold scals at h
    split at h
    · next a b h1 h2 => obtain rfl := Option.some.inj h; exact .cons (scal_sound h1) (scals_sound h2)
    · cases h
theorem ofV_sound {φ : Map} {v : Value} {a : AV} (h : ofV v = some a) : VR φ a v := by
  unfold ofV at h
  split at h
  · next cs =>
    cases e : scals cs.toList with
    | none => rw [e] at h; cases h
    | some l => rw [e] at h; obtain rfl := Option.some.inj h; exact .agg (scals_sound e)
  · exact scal_sound h
/-- A frame that bears what the machine's temporaries say. -/
structure FRel (N : Nat) (φ : Map) (T : Temps) (a : Act) : Prop where
  size : a.tmps.size = N
  at_ : ∀ t v, T.get t = some v → t < N ∧ VR φ v (a.tmps.getD t undef)
theorem FRel.mono {N : Nat} {φ ψ : Map} {T : Temps} {a : Act} (h : FRel N φ T a) (hle : φ.le ψ) : FRel N ψ T a :=
  ⟨h.size, fun t v e => ⟨(h.at_ t v e).1, (h.at_ t v e).2.mono hle⟩⟩
theorem evO_sound {N : Nat} {φ : Map} {T : Temps} {a : Act} (h : FRel N φ T a) {x : Operand} {v : AV} (e : evO T x = some v) : VR φ v (a.eval x) := by
  cases x with
  | tmp t => exact (h.at_ t v e).2
  | const c => exact ofV_sound e
  | func f => obtain rfl := Option.some.inj e; exact .fn .nil .nil
  | global g => cases e
theorem evOs_sound {N : Nat} {φ : Map} {T : Temps} {a : Act} (h : FRel N φ T a) : ∀ {l : List Operand} {k : List AV}, evOs T l = some k → VRs φ k (l.map a.eval)
  | [], k, e => by obtain rfl := Option.some.inj e; exact .nil
  | x :: l, k, e => by
    unfold evOs at e
    split at e
    · next a b h1 h2 => obtain rfl := Option.some.inj e; exact .cons (evO_sound h h1) (evOs_sound h h2)
    · cases e
theorem VRs.one' {φ : Map} : ∀ {l : List AV} {k : List Value}, VRs φ l k → (∀ v ∈ l, v.one = true) → ∀ x ∈ k, x.oneCell' = true
  | _, _, .nil, _, x, hx => by cases hx
  | v :: l, _ :: k, .cons a t, h, x, hx => by
    rcases List.mem_cons.1 hx with rfl | hx
    · have h1 := h v (by simp)
      cases a <;> first | rfl | assumption | (exact absurd h1 (by simp [AV.one]))
    · exact VRs.one' t (fun u hu => h u (by simp [hu])) x hx
theorem VR.cells {φ : Map} {v : AV} {x : Value} (h : VR φ v x) (h1 : ∀ u ∈ cellsA v, u.one = true) : VRs φ (cellsA v) x.cells.toList := by
  cases h with
  | agg t => exact t
  | undef x => exact absurd (h1 .undef (by simp [cellsA])) (by simp [AV.one])
  | opq h =>
    have e : x.cells.toList = [x] := by cases x <;> first | rfl | (simp [Value.oneCell'] at h; done)
    rw [e]
    exact .cons (.opq h) .nil
  | tup t => exact absurd (h1 _ (List.mem_singleton.2 rfl)) (by simp [AV.one])
  | int k n => exact .cons (.int k n) .nil
  | bool b => exact .cons (.bool b) .nil
  | str e => exact .cons (.str e) .nil
  | ptr hp => exact .cons (.ptr hp) .nil
  | nilp => exact .cons .nilp .nil
  | sl hp hc hl hn hf => exact .cons (.sl hp hc hl hn hf) .nil
  | nils => exact .cons .nils .nil
  | emp hp hn hf => exact .cons (.emp hp hn hf) .nil
  | map hp => exact .cons (.map hp) .nil
  | nilm => exact .cons .nilm .nil
  | fn a b => exact .cons (.fn a b) .nil
  | nilf => exact .cons .nilf .nil
  | iface a => exact .cons (.iface a) .nil
  | nili => exact .cons .nili .nil
  | yld hp => exact .cons (.yld hp) .nil
theorem ones_mem {l : List AV} (h : ones l = true) : ∀ v ∈ l, v.one = true := by
  unfold ones at h
  rwa [List.all_eq_true] at h
theorem cond_run {α : Type} {b : Bool} {m : Fr α} {s : HS} {p : α × HS} (h : (cd b m .fail).run s = some p) : b = true ∧ m.run s = some p := by
  cases b with
  | true => exact ⟨rfl, h⟩
  | false => cases h
section
variable {P : Program} {n0 : Nat} {w0 : World} {lm : Nat} {φ : Map} {s s' : HS} {w : World}
theorem add_eq (b o i : Nat) : (⟨b, o, none⟩ : Addr).add i = ⟨b, o + i, none⟩ := by unfold Addr.add; split <;> simp_all
theorem cell_at (w : World) {b : Nat} {C : Array Value} {e : TypeId} {fr : Nat × Nat} (hg : w.heap[b]? = some (.cells C e fr)) (o : Nat) : w.cell? ⟨b, o, none⟩ = C[o]? := by
  simp [World.cell?, hg]
/-- What cells a name stands for. -/
structure HasCells (φ : Map) (w : World) (h : Nat) (cs : List AV) (p : Pl) (C : Array Value) (e : TypeId) : Prop where
  at_ : φ h = some p
  blk : w.heap[p.b]? = some (.cells C e (0, 0))
  size : C.size = p.n
  fits : p.d + cs.length ≤ p.n
  cells : VRs φ cs (seg C p.d cs.length)
  one : ∀ v ∈ cs, v.one = true
theorem cellsOf_sound (h : Rel n0 w0 lm φ s w) {j : Nat} {cs : List AV} (hr : (cellsOf j).run s = some (cs, s')) :
    Rel n0 w0 lm φ s' w ∧ s'.heap = s.heap ∧ s'.next = s.next ∧ ∃ p C e, HasCells φ w j cs p C e := by
  obtain ⟨o, s1, h1, h2⟩ := Fr.bind_run hr
  obtain ⟨g1, g2, g3⟩ := Fr.get_run h1
  cases o with
  | cells l =>
    obtain ⟨rfl, rfl⟩ := Fr.ret_run h2
    obtain ⟨p, b, q1, q2, q3, q4, q5⟩ := h.objs j _ g1 rfl
    cases q3 with
    | cells hs hd hv h1 => exact ⟨h.heap g2 g3, g2, g3, p, _, _, ⟨q1, q2, hs, hd, hv, h1⟩⟩
  | still l =>
    obtain ⟨rfl, rfl⟩ := Fr.ret_run h2
    obtain ⟨p, b, q1, q2, q3, q4, q5⟩ := h.objs j _ g1 rfl
    cases q3 with
    | still hs hd hv h1 => exact ⟨h.heap g2 g3, g2, g3, p, _, _, ⟨q1, q2, hs, hd, hv, h1⟩⟩
  | map _ _ => cases h2
  | sit _ _ => cases h2
  | mit _ _ _ _ => cases h2
  | _ => cases h2
theorem ownCells_sound (h : Rel n0 w0 lm φ s w) {j : Nat} {cs : List AV} (hr : (ownCells j).run s = some (cs, s')) :
    Rel n0 w0 lm φ s' w ∧ s'.heap = s.heap ∧ s'.next = s.next ∧ s.heap.get j = some (.cells cs) ∧ ∃ p C e, HasCells φ w j cs p C e := by
  obtain ⟨o, s1, h1, h2⟩ := Fr.bind_run hr
  obtain ⟨g1, g2, g3⟩ := Fr.get_run h1
  cases o with
  | cells l =>
    obtain ⟨rfl, rfl⟩ := Fr.ret_run h2
    obtain ⟨p, b, q1, q2, q3, q4, q5⟩ := h.objs j _ g1 rfl
    cases q3 with
    | cells hs hd hv h1 => exact ⟨h.heap g2 g3, g2, g3, g1, p, _, _, ⟨q1, q2, hs, hd, hv, h1⟩⟩
  | still l => cases h2
  | map _ _ => cases h2
  | sit _ _ => cases h2
  | mit _ _ _ _ => cases h2
  | _ => cases h2
theorem HasCells.get {j : Nat} {cs : List AV} {p : Pl} {C : Array Value} {e : TypeId} (h : HasCells φ w j cs p C e) {i : Nat} {v : AV} (hv : cs[i]? = some v) :
    ∃ x, C[p.d + i]? = some x ∧ w.cell? ⟨p.b, p.d + i, none⟩ = some x ∧ VR φ v x := by
  obtain ⟨x, h1, h2⟩ := h.cells.get i v hv
  unfold seg at h1
  have hlt : i < cs.length := (List.getElem?_eq_some_iff.1 hv).1
  rw [List.getElem?_take_of_lt hlt, List.getElem?_drop, Array.getElem?_toList] at h1
  exact ⟨x, h1, by rw [cell_at w h.blk]; exact h1, h2⟩
theorem run_sz {t : TypeId} {n : Nat} (h : sz P t = some n) (w : World) : (sizeOf t).run P w = .ok n w := by
  unfold sz at h
  cases e : P.info? t with
  | none => rw [e] at h; cases h
  | some i => rw [e] at h; obtain rfl := Option.some.inj h; simp [sizeOf, typeInfo, e]
theorem run_wide {t : TypeId} {d : TypeDesc} (h : P.underlying t = some d) (w : World) : (isAgg t).run P w = .ok (wide d) w := by
  unfold isAgg
  rw [Sem.run_bind, run_underlying h w]
  cases d <;> rfl
/-- A part of cells, read at its place. -/
theorem part_load {t : TypeId} {j off : Nat} {cs : List AV} {p : Pl} {C : Array Value} {e : TypeId} {v : AV} (h : HasCells φ w j cs p C e) (hp : part P t cs off = some v) :
    ∃ x, (loadVar t ⟨p.b, p.d + off, none⟩).run P w = .ok x w ∧ VR φ v x := by
  unfold part at hp
  cases hu : P.underlying t with
  | none => rw [hu] at hp; cases hp
  | some d =>
    rw [hu] at hp
    simp only at hp
    cases hw : wide d with
    | true =>
      rw [hw] at hp
      simp only at hp
      cases hz : sz P t with
      | none => rw [hz] at hp; cases hp
      | some n =>
        rw [hz] at hp
        simp only at hp
        cases hb : Nat.ble (off + n) cs.length with
        | false => rw [hb] at hp; cases hp
        | true =>
          rw [hb] at hp
          obtain rfl := Option.some.inj hp
          have hle := Nat.le_of_ble_eq_true hb
          have hvs : VRs φ ((cs.drop off).take n) (((seg C p.d cs.length).drop off).take n) := (h.cells.drop off).take n
          have hlen : (((seg C p.d cs.length).drop off).take n).length = n := by
            rw [← hvs.length]; simp; omega
          have hld := run_loadCells_list (P := P) w ⟨p.b, p.d + off, none⟩ (((seg C p.d cs.length).drop off).take n) (fun k x hx => by
            have hk : k < n := by
              have := (List.getElem?_eq_some_iff.1 hx).1
              omega
            rw [List.getElem?_take_of_lt hk, List.getElem?_drop] at hx
            unfold seg at hx
            rw [List.getElem?_take_of_lt (by omega), List.getElem?_drop, Array.getElem?_toList] at hx
            rw [add_eq, cell_at w h.blk, ← hx]
            congr 1; omega)
          rw [hlen] at hld
          refine ⟨.agg (((seg C p.d cs.length).drop off).take n).toArray, ?_, .agg (by simpa using hvs)⟩
          simp [loadVar, run_wide hu, hw, run_sz hz, hld]
    | false =>
      rw [hw] at hp
      simp only at hp
      obtain ⟨x, h1, h2, h3⟩ := h.get hp
      refine ⟨x, ?_, h3⟩
      simp [loadVar, run_wide hu, hw, h2]
theorem Fr.of_bind {α β : Type} {o : Option α} {s : HS} {p : α × HS} (h : (Fr.of o).run s = some p) : o = some p.1 ∧ p.2 = s := by
  cases o with
  | none => cases h
  | some a => have := Option.some.inj h; subst this; exact ⟨rfl, rfl⟩
theorem loadA_sound (h : Rel n0 w0 lm φ s w) {t : TypeId} {a v : AV} {x : Value} (hx : VR φ a x) (hr : (loadA P t a).run s = some (v, s')) :
    Rel n0 w0 lm φ s' w ∧ s'.next = s.next ∧ ∃ y, (Instr.loadAt t x).run P w = .ok y w ∧ VR φ v y := by
  cases hx with
  | ptr hp =>
    simp only [loadA] at hr
    obtain ⟨cs, s1, h1, h2⟩ := Fr.bind_run hr
    obtain ⟨r1, g1, g2, p, C, e, hc⟩ := cellsOf_sound h h1
    obtain ⟨e1, rfl⟩ := Fr.of_run h2
    obtain rfl := Option.some.inj (hc.at_.symm.trans hp)
    obtain ⟨y, y1, y2⟩ := part_load hc e1
    exact ⟨r1, g2, y, by simp [Instr.loadAt, Instr.sureAddr, y1], y2⟩
  | _ => cases hr
theorem setRow_put (w : World) {g : Nat} {old : Array Value} {t : TypeId} {fr : Nat × Nat} (hg : w.heap[g]? = some (.cells old t fr)) (cs : Array Value) : w.setRow g cs = w.putObj g (.cells cs t fr) := by
  unfold World.setRow World.putObj
  congr 1
  apply Array.ext_getElem?
  intro i
  have hlt : g < w.heap.size := (Array.getElem?_eq_some_iff.1 hg).1
  by_cases c : g = i
  · subst c
    rw [Array.getElem?_modify, if_pos rfl, hg, Array.getElem?_setIfInBounds_self_of_lt hlt]
    rfl
  · rw [Array.getElem?_modify, if_neg c, Array.getElem?_setIfInBounds_ne c]
theorem seg_splice (C : List Value) (d off n : Nat) (vs : List Value) (h1 : off + vs.length ≤ n) (h2 : d + n ≤ C.length) :
    (((C.take (d + off) ++ vs ++ C.drop (d + off + vs.length)).drop d).take n) = ((C.drop d).take n).take off ++ vs ++ ((C.drop d).take n).drop (off + vs.length) := by
  apply List.ext_getElem?
  intro i
  by_cases c : i < n
  · rw [List.getElem?_take_of_lt c, List.getElem?_drop]
    by_cases c1 : i < off
    · rw [List.append_assoc, List.append_assoc, List.getElem?_append_left (by simp; omega), List.getElem?_take_of_lt (by omega), List.getElem?_append_left (by simp; omega), List.getElem?_take_of_lt c1, List.getElem?_take_of_lt c, List.getElem?_drop]
    · by_cases c2 : i < off + vs.length
      · rw [List.append_assoc, List.append_assoc, List.getElem?_append_right (by simp; omega), List.getElem?_append_left (by simp; omega), List.getElem?_append_right (by simp; omega), List.getElem?_append_left (by simp; omega)]
        congr 1; simp; omega
      · rw [List.getElem?_append_right (by simp; omega), List.getElem?_append_right (by simp; omega), List.getElem?_drop, List.getElem?_drop, List.getElem?_take_of_lt (by simp; omega), List.getElem?_drop]
        congr 1; simp; omega
  · rw [List.getElem?_eq_none (by simp; omega), List.getElem?_eq_none (by simp; omega)]
theorem splice_eq {cs vs cs' : List AV} {off : Nat} (h : splice cs off vs = some cs') : off + vs.length ≤ cs.length ∧ cs' = cs.take off ++ vs ++ cs.drop (off + vs.length) := by
  unfold splice at h
  cases hb : Nat.ble (off + vs.length) cs.length with
  | false => rw [hb] at h; cases h
  | true => rw [hb] at h; exact ⟨Nat.le_of_ble_eq_true hb, (Option.some.inj h).symm⟩
/-- Cells of one's own, written at a place. -/
theorem write_sound (h : Rel n0 w0 lm φ s w) {j off : Nat} {cs vs cs' : List AV} {xs : List Value} {p : Pl} {C : Array Value} {e : TypeId} (hc : HasCells φ w j cs p C e) (h0 : s.heap.get j = some (.cells cs))
    (hs : splice cs off vs = some cs') (hv : VRs φ vs xs) (h1 : ∀ v ∈ vs, v.one = true) {u : Unit} (hr : (Fr.set j (.cells cs')).run s = some (u, s')) :
    s'.next = s.next ∧ ∃ w', (storeCells ⟨p.b, p.d + off, none⟩ xs).run P w = .ok () w' ∧ Rel n0 w0 lm φ s' w' := by
  obtain ⟨hle, rfl⟩ := splice_eq hs
  have hl := hv.length
  have hrun := run_storeCells_at (P := P) p.b (p.d + off) e xs 0 C w hc.blk (by have := hc.size; have := hc.fits; omega) (hv.one' h1)
  rw [Nat.add_zero] at hrun
  rw [setRow_put w hc.blk] at hrun
  have hor : OR φ (.cells (cs.take off ++ vs ++ cs.drop (off + vs.length))) (.cells (C.toList.take (p.d + off) ++ xs ++ C.toList.drop (p.d + off + xs.length)).toArray e (0, 0)) p := by
    have hcl : (cs.take off ++ vs ++ cs.drop (off + vs.length)).length = cs.length := by simp; omega
    have hC : p.d + cs.length ≤ C.toList.length := by have := hc.size; have := hc.fits; simp; omega
    refine .cells ?_ (by rw [hcl]; exact hc.fits) ?_ ?_
    · have := hc.size; have := hc.fits; simp; omega
    · rw [hcl]
      unfold seg
      simp only []
      rw [seg_splice C.toList p.d off cs.length xs (by omega) hC, ← hl]
      exact ((hc.cells.take off).append hv).append (hc.cells.drop _)
    · intro v hv
      rcases List.mem_append.1 hv with hv | hv
      · rcases List.mem_append.1 hv with hv | hv
        · exact hc.one v (List.mem_of_mem_take hv)
        · exact h1 v hv
      · exact hc.one v (List.mem_of_mem_drop hv)
  obtain ⟨k1, k2⟩ := h.set hr h0 rfl rfl hc.at_ _ hor
  exact ⟨k1, _, hrun, k2⟩
theorem storeA_sound (h : Rel n0 w0 lm φ s w) {t : TypeId} {a v r : AV} {x y : Value} (hx : VR φ a x) (hy : VR φ v y) (hr : (storeA P t a v).run s = some (r, s')) :
    s'.next = s.next ∧ r = .undef ∧ ∃ w', (Instr.storeAt t x y).run P w = .ok () w' ∧ Rel n0 w0 lm φ s' w' := by
  cases hx with
  | ptr hp =>
    simp only [storeA] at hr
    obtain ⟨cs, s1, h1, h2⟩ := Fr.bind_run hr
    obtain ⟨r1, g1, g2, g3, p, C, e, hc⟩ := ownCells_sound h h1
    obtain rfl := Option.some.inj (hc.at_.symm.trans hp)
    cases hz : sz P t with
    | none => rw [hz] at h2; cases h2
    | some n =>
      rw [hz] at h2
      obtain ⟨hb, h2⟩ := cond_run h2
      rw [Bool.and_eq_true] at hb
      have hn := Nat.eq_of_beq_eq_true hb.1
      have ho := ones_mem hb.2
      cases hs : splice cs _ (cellsA v) with
      | none => rw [hs] at h2; cases h2
      | some cs' =>
        rw [hs] at h2
        obtain ⟨u, s2, k1, k2⟩ := Fr.bind_run h2
        obtain ⟨rfl, rfl⟩ := Fr.ret_run k2
        have hvs := hy.cells ho
        obtain ⟨q1, w', q2, q3⟩ := write_sound (P := P) r1 hc (by rw [g1]; exact g3) hs hvs ho k1
        refine ⟨by rw [q1, g2], rfl, w', ?_, q3⟩
        have hlen : y.cells.size = n := by rw [← hn, hvs.length]; simp
        simp [Instr.storeAt, Instr.sureAddr, storeVar, run_sz hz, hlen, q2]
  | _ => cases hr
theorem allocA_sound (h : Rel n0 w0 lm φ s w) {v r : AV} {y : Value} (hy : VR φ v y) (hr : (allocA P v).run s = some (r, s')) (hm : s'.next ≤ lm) (t : TypeId) :
    ∃ ψ x, (newVar t y).run P w = .ok x (w.alloc (.cells y.cells t)) ∧ Ext s.next s'.next φ ψ ∧ Rel n0 w0 lm ψ s' (w.alloc (.cells y.cells t)) ∧ VR ψ r (.pointer (some x)) := by
  obtain ⟨hb, h2⟩ := cond_run hr
  have ho := ones_mem hb
  obtain ⟨j, s1, k1, k2⟩ := Fr.bind_run h2
  obtain ⟨rfl, rfl⟩ := Fr.ret_run k2
  have hvs := hy.cells ho
  have hlen := hvs.length
  obtain ⟨e1, e2, e3, e4⟩ := h.new k1 hm (.cells y.cells t) 0 y.cells.size rfl (.cells rfl (by simp at hlen ⊢; omega) (by
    have e : seg y.cells 0 (cellsA v).length = y.cells.toList := by unfold seg; rw [List.drop_zero, List.take_of_length_le (by omega)]
    rw [e]; exact hvs.mono (h.ext_add (by have := (Fr.new_run k1).2.1; omega) _).le) ho)
  refine ⟨_, ⟨w.heap.size, 0, none⟩, rfl, e3, e4, ?_⟩
  have := VR.ptr (φ := φ.add s.next ⟨w.heap.size, 0, y.cells.size⟩) (h := j) (off := 0) (p := ⟨w.heap.size, 0, y.cells.size⟩) (by rw [e1]; simp [Map.add])
  simpa using this
end
end
end Go.Proofs.YtifcganfcjildaaGreatDoor.E
