/- Slices read and grown. -/
import Derived.Test.YtifcganfcjildaaGreatDoorE7
namespace Go.Proofs.YtifcganfcjildaaGreatDoor.E
open Go Go.RowKit
set_option linter.unusedVariables false
set_option linter.unusedSimpArgs false
set_option linter.unnecessarySimpa false
noncomputable section

theorem seg_load {P : Program} {φ : Map} {w : World} {j off n : Nat} {cs : List AV} {p : Pl} {C : Array Value} {e : TypeId} (h : HasCells φ w j cs p C e) (hn : off + n ≤ cs.length) :
    VRs φ ((cs.drop off).take n) (((seg C p.d cs.length).drop off).take n) ∧ ∀ w' : World, w'.heap = w.heap → (loadCells ⟨p.b, p.d + off, none⟩ n).run P w' = .ok (((seg C p.d cs.length).drop off).take n).toArray w' := by
  have hvs : VRs φ ((cs.drop off).take n) (((seg C p.d cs.length).drop off).take n) := (h.cells.drop off).take n
  have hlen : (((seg C p.d cs.length).drop off).take n).length = n := by rw [← hvs.length]; simp; omega
  refine ⟨hvs, fun w' hw => ?_⟩
  have hld := run_loadCells_list (P := P) w' ⟨p.b, p.d + off, none⟩ (((seg C p.d cs.length).drop off).take n) (fun k x hx => by
    have hk : k < n := by have := (List.getElem?_eq_some_iff.1 hx).1; omega
    rw [List.getElem?_take_of_lt hk, List.getElem?_drop] at hx
    unfold seg at hx
    rw [List.getElem?_take_of_lt (by omega), List.getElem?_drop, Array.getElem?_toList] at hx
    rw [add_eq, cell_at w' (by rw [hw]; exact h.blk), ← hx]
    congr 1; omega)
  rw [hlen] at hld
  exact hld
theorem lenA_sound {P : Program} {φ : Map} {x : AV} {X : Value} {n : Nat} (hx : VR φ x X) (h : lenA x = some n) (hm : x ≠ .nilm) (w : World) : (Builtin.lenOf X).run P w = .ok n w := by
  cases hx with
  | nils => obtain rfl := Option.some.inj h; rfl
  | emp hp hn _ => obtain rfl := Option.some.inj h; rfl
  | sl hp hc hl2 hn => obtain rfl := Option.some.inj h; rfl
  | str he =>
    obtain rfl := Option.some.inj h
    subst he
    simp [Builtin.lenOf]
  | nilm => exact absurd rfl hm
  | _ => cases h
theorem bytes_vrs {φ : Map} : ∀ l : List UInt8, VRs φ ((l.map (·.toNat)).map fun b => .int .u8 (Int.ofNat b)) (l.map fun b => Value.int .u8 b.toNat)
  | [] => .nil
  | b :: l => .cons (.int .u8 _) (bytes_vrs l)
section
variable {P : Program} {n0 : Nat} {w0 : World} {lm : Nat} {φ : Map} {s s' : HS} {w : World}
theorem readA_sound (h : Rel n0 w0 lm φ s w) {es n m : Nat} {x : AV} {X : Value} {l : List AV} (hx : VR φ x X) (hl : lenA x = some n) (hm : m ≤ n) (hr : (readA es m x).run s = some (l, s')) (hlen : l.length = m * es) :
    Rel n0 w0 lm φ s' w ∧ s'.heap = s.heap ∧ s'.next = s.next ∧ ∃ news : List Value, VRs φ l news ∧ (∀ v ∈ news, v.oneCell' = true) ∧ ∀ w' : World, w'.heap = w.heap → (Builtin.firstCells es m X).run P w' = .ok news.toArray w' := by
  cases hx with
  | nils =>
    obtain ⟨rfl, rfl⟩ := Fr.ret_run hr
    exact ⟨h, rfl, rfl, [], .nil, (fun _ hv => by cases hv), fun w' _ => rfl⟩
  | emp hp hn _ =>
    obtain ⟨rfl, rfl⟩ := Fr.ret_run hr
    obtain rfl := Option.some.inj hl
    obtain rfl : m = 0 := by omega
    exact ⟨h, rfl, rfl, [], .nil, (fun _ hv => by cases hv), fun w' _ => by simp [Builtin.firstCells, loadCells, loadCellsFrom]⟩
  | @sl hh off len _ _ _ _ hp hc hl2 hn _ =>
    obtain rfl : len = n := Option.some.inj hl
    obtain ⟨hb, hr2⟩ := cond_run hr
    have := Nat.eq_of_beq_eq_true hb
    subst this
    obtain ⟨cs, s1, h1, h2⟩ := Fr.bind_run hr2
    obtain ⟨r1, g1, g2, p, C, e, hcs⟩ := cellsOf_sound h h1
    obtain ⟨rfl, rfl⟩ := Fr.ret_run h2
    obtain rfl := Option.some.inj (hcs.at_.symm.trans hp)
    refine ⟨r1, g1, g2, ?_⟩
    by_cases c0 : m * es = 0
    · rw [c0]
      rw [List.take_zero] at *
      exact ⟨[], .nil, (fun _ hv => by cases hv), fun w' _ => by simp [Builtin.firstCells, c0, loadCells, loadCellsFrom]⟩
    · have hle : off + m * es ≤ cs.length := by
        rw [List.length_take, List.length_drop] at hlen
        omega
      obtain ⟨a1, a2⟩ := seg_load (P := P) hcs hle
      exact ⟨_, a1, a1.one' (fun v hv => hcs.one v (List.mem_of_mem_drop (List.mem_of_mem_take hv))), fun w' hw => by simp only [Builtin.firstCells]; exact a2 w' hw⟩
  | str he =>
    obtain ⟨hb, hr2⟩ := cond_run hr
    have := Nat.eq_of_beq_eq_true hb
    subst this
    obtain ⟨rfl, rfl⟩ := Fr.ret_run hr2
    obtain rfl := Option.some.inj hl
    subst he
    rename_i b
    rw [← List.map_take]
    refine ⟨h, rfl, rfl, _, bytes_vrs (b.data.toList.take m), (fun v hv => by obtain ⟨_, _, rfl⟩ := List.mem_map.1 hv; rfl), fun w' _ => ?_⟩
    have e : (b.extract 0 m).data = (b.data.toList.take m).toArray := by
      apply Array.toList_inj.1
      rw [ByteArray.data_extract, Array.toList_extract, List.extract_eq_take_drop]
      simp
    show Sem.run P (pure _) w' = _
    rw [e]
    have e2 : ((b.data.toList.take m).toArray.map fun x => Value.int .u8 x.toNat) = ((b.data.toList.take m).map fun x => Value.int .u8 x.toNat).toArray := by
      apply Array.toList_inj.1
      simp
    rw [e2]
    rfl
  | _ => cases hr
/-- A name is laid upon a block that nobody has any more. -/
theorem Rel.adopt (h : Rel n0 w0 lm φ s w) {o : AO} {g : Nat} (hs : (Fr.new o).run s = some (g, s')) (hm : s'.next ≤ lm) (ho : o.own = true) (p : Pl) (hp : n0 ≤ p.b) (hlt : p.b < w.heap.size)
    (hno : ∀ k o' q, s.heap.get k = some o' → o'.own = true → φ k = some q → q.b ≠ p.b) (b : Obj) (hb : OR (φ.add s.next p) o b p) :
    g = s.next ∧ s'.next = s.next + 1 ∧ Ext s.next s'.next φ (φ.add s.next p) ∧ Rel n0 w0 lm (φ.add s.next p) s' (w.putObj p.b b) := by
  obtain ⟨rfl, hn, hg⟩ := Fr.new_run hs
  have hle := h.ext_add (by omega) p
  have hsz : (w.putObj p.b b).heap.size = w.heap.size := by simp [World.putObj]
  have hadd : (φ.add s.next p) s.next = some p := by simp [Map.add]
  have hother : ∀ j, j ≠ s.next → (φ.add s.next p) j = φ j := fun j hj => by simp [Map.add, hj]
  refine ⟨rfl, hn, by rw [hn]; exact hle, h.below.trans ⟨rfl, rfl, rfl, by rw [hsz]; exact Nat.le_refl _, fun k hk => World.putObj_heap_other (by omega)⟩, fun j hj hjl => ?_, fun j o' he hl => ?_, fun j k o1 o2 q q' e1 e2 w1 w2 q1 q2 hpp => ?_, fun j q e => ?_, by rw [hsz]; exact h.base⟩
  · rw [hg j, if_neg (by omega)]; exact h.wf j (by omega) hjl
  · rw [hg j] at he
    by_cases c : j = s.next
    · rw [if_pos c] at he
      obtain rfl := Option.some.inj he
      subst c
      exact ⟨p, b, hadd, World.putObj_heap_same hlt, hb, fun _ => hp, fun hf => by rw [ho] at hf; cases hf⟩
    · rw [if_neg c] at he
      obtain ⟨q, b', q1, q2, q3, q4, q5⟩ := h.objs j o' he hl
      refine ⟨q, b', by rw [hother j c]; exact q1, ?_, q3.mono hle.le, q4, q5⟩
      rw [World.putObj_heap_other]
      · exact q2
      · cases hoo : o'.own with
        | true => exact hno j o' q he hoo q1
        | false => have := q5 hoo; omega
  · rw [hg j] at e1; rw [hg k] at e2
    by_cases c : j = s.next
    · subst c
      by_cases c2 : k = s.next
      · exact c2.symm
      · rw [hadd] at q1; rw [hother k c2] at q2
        obtain rfl := Option.some.inj q1
        rw [if_neg c2] at e2
        exact absurd hpp.symm (hno k o2 q' e2 w2 q2)
    · by_cases c2 : k = s.next
      · subst c2
        rw [hadd] at q2; rw [hother j c] at q1
        obtain rfl := Option.some.inj q2
        rw [if_neg c] at e1
        exact absurd hpp (hno j o1 q e1 w1 q1)
      · rw [if_neg c] at e1; rw [if_neg c2] at e2
        rw [hother j c] at q1; rw [hother k c2] at q2
        exact h.inj j k o1 o2 q q' e1 e2 w1 w2 q1 q2 hpp
  · rw [hsz]
    by_cases c : j = s.next
    · subst c
      rw [hadd] at e
      obtain rfl := Option.some.inj e
      exact ⟨by rw [hg, if_pos rfl]; simp, hlt⟩
    · rw [hother j c] at e
      obtain ⟨q1, q2⟩ := h.dom j q e
      exact ⟨by rw [hg, if_neg c]; exact q1, q2⟩
theorem kill_free (h : Rel n0 w0 lm φ s w) {n : Nat} {s' : HS} {u : Unit} (hs : (Fr.set n .dead).run s = some (u, s')) {o0 : AO} (h0 : s.heap.get n = some o0) (hown : o0.own = true) {p : Pl} (hp : φ n = some p) :
    ∀ k o' q, s'.heap.get k = some o' → o'.own = true → φ k = some q → q.b ≠ p.b := by
  obtain ⟨_, hn, hg⟩ := Fr.set_run hs
  intro k o' q he ho hq hpp
  rw [hg k] at he
  by_cases c : k = n
  · rw [if_pos c] at he; obtain rfl := Option.some.inj he; cases ho
  · rw [if_neg c] at he
    exact c (h.inj k n o' o0 q p he h0 ho hown hq hp hpp)
end
theorem growBy_le (n : Nat) : ∀ (r c : Nat), Builtin.growBy n r c ≤ max c (2 * n + 192)
  | 0, c => Nat.le_max_left _ _
  | r + 1, c => by
    unfold Builtin.growBy
    split
    · exact Nat.le_max_left _ _
    · have := growBy_le n r (c + (c + 768) / 4)
      omega
theorem nextcap_le {n o : Nat} (h : o < n) : Builtin.nextslicecap n o ≤ 2 * n + 192 := by
  unfold Builtin.nextslicecap
  split
  · omega
  · split
    · omega
    · have := growBy_le n 4 o
      omega
theorem few_le {n : Nat} (h : few n = true) : n ≤ 1000000 := Nat.le_of_ble_eq_true h
end
end Go.Proofs.YtifcganfcjildaaGreatDoor.E
