/- append as a whole. -/
import Derived.Test.YtifcganfcjildaaGreatDoorE9
namespace Go.Proofs.YtifcganfcjildaaGreatDoor.E
open Go Go.RowKit
set_option linter.unusedVariables false
set_option linter.unusedSimpArgs false
set_option linter.unnecessarySimpa false
noncomputable section

theorem seg_sub (C : Array Value) (d n off k : Nat) (h : off + k ≤ n) : ((seg C d n).drop off).take k = seg C (d + off) k := by
  unfold seg
  apply List.ext_getElem?
  intro i
  by_cases c : i < k
  · rw [List.getElem?_take_of_lt c, List.getElem?_drop, List.getElem?_take_of_lt (by omega), List.getElem?_drop, List.getElem?_take_of_lt c, List.getElem?_drop]
    congr 1; omega
  · rw [List.getElem?_eq_none (by simp; omega), List.getElem?_eq_none (by simp; omega)]
theorem zero_parts {P : Program} {φ : Map} {e : TypeId} {i : TypeInfo} {z : AV} (hi : P.info? e = some i) (hz : zero P e = some z) : ∃ zv, i.zero = some zv ∧ VR φ z zv := by
  unfold zero at hz
  rw [hi] at hz
  cases h : i.zero with
  | none => simp [h] at hz
  | some zv =>
    simp [h] at hz
    exact ⟨zv, rfl, ofV_sound hz⟩
theorem zeros_len (z : Array Value) (k : Nat) : (Builtin.zeroCells z k).toList.length = k * z.size := by simp [Builtin.zeroCells]
theorem fit_le {need o b : Nat} (hn : need ≤ 2000000) (hb : b ≤ 1000000) (h : o < need) : Builtin.nextslicecap need o * b ≤ 281474976710656 := by
  have h1 := nextcap_le h
  calc Builtin.nextslicecap need o * b ≤ (2 * need + 192) * 1000000 := Nat.mul_le_mul h1 hb
    _ ≤ 281474976710656 := by omega
section
variable {P : Program} {n0 : Nat} {w0 : World} {lm : Nat} {φ : Map} {s s' : HS} {w : World}
theorem appendA_sound (h : Rel n0 w0 lm φ s w) {t tx ty e : TypeId} {i : TypeInfo} {z : AV} (ht : P.underlying t = some (.slice e)) (hi : P.info? e = some i) (hz : zero P e = some z) (hzl : (cellsA z).length = i.size) (hz1 : ones (cellsA z) = true)
    {sv : AV} {S X : Value} {n : Nat} {new : List AV} {news : List Value} (hs : VR φ sv S) (hx : Src P i.size tx X n news w) (hv : VRs φ new news) {r : AV} (hr : (appendA i.size i.bytes sv n new).run s = some (r, s')) (hm : s'.next ≤ lm) :
    ∃ ψ w' V, (Builtin.append_ #[t, tx] ty #[S, X]).run P w = .ok V w' ∧ Ext s.next s'.next φ ψ ∧ Rel n0 w0 lm ψ s' w' ∧ VR ψ r V := by
  obtain ⟨zv, hzv, hzr⟩ := zero_parts (φ := φ) hi hz
  have hzc : zv.cells.size = i.size := by
    have := (hzr.cells (ones_mem hz1)).length
    simp at this; omega
  have hnl := hv.length
  have hnew : new.length = n * i.size := by rw [hnl]; exact hx.newsLen
  cases n with
  | zero =>
    obtain ⟨hb, hr2⟩ := cond_run hr
    obtain ⟨rfl, rfl⟩ := Fr.ret_run hr2
    have hnil : news = [] := List.length_eq_zero_iff.1 (by rw [hx.newsLen]; simp)
    subst hnil
    cases hs with
    | nils => exact ⟨φ, w, _, run_append_nothing w t tx ty e i ht hi _ _ _ (Nat.le_refl _) X hx, Ext.refl _ _ _, h, .nils⟩
    | emp hp hn hf => exact ⟨φ, w, _, run_append_nothing w t tx ty e i ht hi _ _ _ (Nat.zero_le _) X hx, Ext.refl _ _ _, h, .emp hp hn hf⟩
    | sl hp hc hl hn hf => exact ⟨φ, w, _, run_append_nothing w t tx ty e i ht hi _ _ _ hl X hx, Ext.refl _ _ _, h, .sl hp hc hl hn hf⟩
    | _ => cases hb
  | succ n =>
    obtain ⟨hb, hr⟩ := cond_run hr
    rw [Bool.and_eq_true, Bool.and_eq_true] at hb
    obtain ⟨⟨hn1, hby⟩, hfn⟩ := hb
    have hn1 := ones_mem hn1
    have hby := few_le hby
    have hfn := few_le hfn
    -- a new row, whatever the old
    have grow : ∀ (base : Option Addr) (len cap : Nat) (olds : List Value), cap < len + (n + 1) → len ≤ 1000000 → (Builtin.firstCells i.size len (.slice base len cap)).run P w.drew = .ok olds.toArray w.drew →
        ∃ gc R cs, len + (n + 1) ≤ gc ∧ R.length = (gc - (len + (n + 1))) * i.size ∧ cs.toList = (olds ++ news) ++ R ∧ (Builtin.append_ #[t, tx] ty #[.slice base len cap, X]).run P w = .ok (.slice (some ⟨w.heap.size, 0, none⟩) (len + (n + 1)) gc) (w.drew.alloc (.cells cs e)) := by
      intro base len cap olds hg hl1 hold
      refine ⟨grownCap w (len + (n + 1)) cap e, (Builtin.zeroCells zv.cells (grownCap w (len + (n + 1)) cap e - (len + (n + 1)))).toList, _, grownCap_ge _ _ _ _, ?_, ?_, run_append_grow_src w t tx ty e i zv ht hi hzv base len cap olds hold X (n + 1) news hx hg (by omega) (fit_le (by omega) hby hg)⟩
      · rw [zeros_len, hzc]
      · simp
    cases hs with
    | nils =>
      obtain ⟨gc, R, cs, g1, g2, g3, g4⟩ := grow none 0 0 [] (by omega) (by omega) (run_firstCells_none _ _ _ _ _)
      rw [Nat.zero_add] at g1 g2 g4
      obtain ⟨ψ, a1, a2, a3⟩ := newRow_sound (e := e) h hv hn1 hnew g1 g2 hr hm (by simpa using g3)
      exact ⟨ψ, _, _, g4, a1, a2, a3⟩
    | @emp hh o c es p hp hn hfull =>
      obtain ⟨hb2, hr2⟩ := cond_run hr
      have := Nat.eq_of_beq_eq_true hb2
      subst this
      obtain ⟨cs0, s1, k1, k2⟩ := Fr.bind_run hr2
      obtain ⟨r1, q1, q2, q3, p', C, e0, hc⟩ := ownCells_sound h k1
      obtain rfl := Option.some.inj (hc.at_.symm.trans hp)
      by_cases croom : n + 1 ≤ c
      · have hle : o + news.length ≤ C.size := by
          have := Nat.mul_le_mul_right i.size croom
          rw [hx.newsLen, hc.size]; omega
        have hcell := cells_isSome w hc.blk hle
        obtain ⟨ψ, a1, a2, a3⟩ := growA_room r1 (by rw [q1]; exact q3) hc (l := []) (d := o) (by exact .nil) (fun _ hv => by cases hv) hv hn1 (by simpa using hnew) croom hn (hfull (by omega)) k2 hm
        refine ⟨ψ, _, _, run_append_room_src w t tx ty e i ht hi p'.b o 0 c X (n + 1) news hx (by omega) (by simpa using hcell.1) (by simpa using hcell.2), by rw [← q2]; exact a1, ?_, ?_⟩
        · simpa using a2
        · simpa using a3
      · obtain ⟨gc, R, cs, g1, g2, g3, g4⟩ := grow (some ⟨p'.b, o, none⟩) 0 c [] (by omega) (by omega) (by simp [Builtin.firstCells, loadCells, loadCellsFrom])
        rw [Nat.zero_add] at g1 g2 g4
        obtain ⟨ψ, a1, a2, a3⟩ := growA_new (e := e) r1 (l := []) .nil (fun _ hv => by cases hv) hv hn1 (by simpa using hnew) g1 g2 k2 hm (by simpa using g3)
        exact ⟨ψ, _, _, g4, by rw [← q2]; exact a1, a2, a3⟩
    | @sl hh off len es c cap p hp hcap hl hn hfull =>
      obtain ⟨hb2, hr2⟩ := cond_run hr
      rw [Bool.and_eq_true] at hb2
      have := Nat.eq_of_beq_eq_true hb2.1
      subst this
      have hfl := few_le hb2.2
      cases cap with
      | none =>
        obtain ⟨cs0, s1, k1, k2⟩ := Fr.bind_run hr2
        obtain ⟨r1, q1, q2, q3, p', C, e0, hc⟩ := ownCells_sound h k1
        obtain rfl := Option.some.inj (hc.at_.symm.trans hp)
        split at k2
        · next hin =>
          rw [Bool.and_eq_true] at hin
          have hes : 0 < i.size := Nat.le_of_ble_eq_true hin.1
          have hin2 := Nat.le_of_ble_eq_true hin.2
          have hfl := hfull rfl
          have croom : len + (n + 1) ≤ c := by
            have hft := hc.fits
            have : (len + (n + 1)) * i.size ≤ c * i.size := by omega
            exact Nat.le_of_mul_le_mul_right this hes
          cases hsp : splice cs0 (off + len * i.size) new with
          | none => rw [hsp] at k2; cases k2
          | some cs' =>
            rw [hsp] at k2
            obtain ⟨u, s2, k3, k4⟩ := Fr.bind_run k2
            obtain ⟨rfl, rfl⟩ := Fr.ret_run k4
            have hsl := (splice_eq hsp).1
            have hle : p'.d + (off + len * i.size) + news.length ≤ C.size := by
              have := hc.size; have := hc.fits; omega
            have hcell := cells_isSome w hc.blk hle
            obtain ⟨a1, w', a2, a3⟩ := write_sound (P := P) r1 hc (by rw [q1]; exact q3) hsp hv hn1 k3
            have a4 := run_storeCells_cells (P := P) p'.b (p'.d + (off + len * i.size)) news 0 w (by simpa using hcell.1) (by simpa using hcell.2) (hv.one' hn1)
            rw [a2] at a4
            injection a4 with _ a5
            rw [Nat.add_zero, ← Nat.add_assoc] at a5
            rw [← Nat.add_assoc] at hcell
            refine ⟨φ, _, _, run_append_room_src w t tx ty e i ht hi p'.b (p'.d + off) len c X (n + 1) news hx croom hcell.1 hcell.2, by rw [a1, q2]; exact Ext.refl _ _ _, by rw [← a5]; exact a3, .sl hp (fun k hk => by cases hk) croom hn (fun _ => hfl)⟩
        · obtain ⟨hb3, k2⟩ := cond_run k2
          have hlen := Nat.le_of_ble_eq_true hb3
          obtain ⟨v1, v2⟩ := seg_load (P := P) hc hlen
          have hll : ((cs0.drop off).take (len * i.size)).length = len * i.size := by simp; omega
          have hone : ∀ v ∈ (cs0.drop off).take (len * i.size), v.one = true := fun v hv => hc.one v (List.mem_of_mem_drop (List.mem_of_mem_take hv))
          by_cases croom : len + (n + 1) ≤ c
          · have hle : p'.d + off + len * i.size + news.length ≤ C.size := by
              have := Nat.mul_le_mul_right i.size croom
              rw [Nat.add_mul] at this
              rw [hx.newsLen, hc.size]; omega
            have hcell := cells_isSome w hc.blk hle
            obtain ⟨ψ, a1, a2, a3⟩ := growA_room r1 (by rw [q1]; exact q3) hc (l := (cs0.drop off).take (len * i.size)) (d := p'.d + off) (by rw [hll, ← seg_sub C p'.d cs0.length off (len * i.size) hlen]; exact v1) hone hv hn1 (by rw [List.length_append, hll, hnew, ← Nat.add_mul]) croom hn (hfull rfl) k2 hm
            refine ⟨ψ, _, _, run_append_room_src w t tx ty e i ht hi p'.b (p'.d + off) len c X (n + 1) news hx croom hcell.1 hcell.2, by rw [← q2]; exact a1, ?_, a3⟩
            rw [hll] at a2; exact a2
          · obtain ⟨gc, R, cs, g1, g2, g3, g4⟩ := grow (some ⟨p'.b, p'.d + off, none⟩) len c _ (by omega) hfl (by simp only [Builtin.firstCells]; exact v2 w.drew rfl)
            obtain ⟨ψ, a1, a2, a3⟩ := growA_new (e := e) r1 v1 hone hv hn1 (by rw [List.length_append, hll, hnew, ← Nat.add_mul]) g1 g2 k2 hm g3
            exact ⟨ψ, _, _, g4, by rw [← q2]; exact a1, a2, a3⟩
      | some c' =>
        obtain rfl := hcap c' rfl
        dsimp only at hr2
        cases hble : Nat.ble (len + (n + 1)) c with
        | true =>
          rw [hble] at hr2
          have croom := Nat.le_of_ble_eq_true hble
          obtain ⟨cs0, s1, k1, k2⟩ := Fr.bind_run hr2
          obtain ⟨r1, q1, q2, q3, p', C, e0, hc⟩ := ownCells_sound h k1
          obtain rfl := Option.some.inj (hc.at_.symm.trans hp)
          cases hsp : splice cs0 (off + len * i.size) new with
          | none => rw [hsp] at k2; cases k2
          | some cs' =>
            rw [hsp] at k2
            obtain ⟨u, s2, k3, k4⟩ := Fr.bind_run k2
            obtain ⟨rfl, rfl⟩ := Fr.ret_run k4
            have hsl := (splice_eq hsp).1
            have hle : p'.d + (off + len * i.size) + news.length ≤ C.size := by
              have := hc.size; have := hc.fits; omega
            have hcell := cells_isSome w hc.blk hle
            obtain ⟨a1, w', a2, a3⟩ := write_sound (P := P) r1 hc (by rw [q1]; exact q3) hsp hv hn1 k3
            have a4 := run_storeCells_cells (P := P) p'.b (p'.d + (off + len * i.size)) news 0 w (by simpa using hcell.1) (by simpa using hcell.2) (hv.one' hn1)
            rw [a2] at a4
            injection a4 with _ a5
            rw [Nat.add_zero, ← Nat.add_assoc] at a5
            rw [← Nat.add_assoc] at hcell
            refine ⟨φ, _, _, run_append_room_src w t tx ty e i ht hi p'.b (p'.d + off) len c X (n + 1) news hx croom hcell.1 hcell.2, by rw [a1, q2]; exact Ext.refl _ _ _, by rw [← a5]; exact a3, .sl hp (fun k hk => Option.some.inj hk) croom hn (fun k => by cases k)⟩
        | false =>
          rw [hble] at hr2
          have croom : ¬ (len + (n + 1) ≤ c) := fun hh => by rw [Nat.ble_eq_true_of_le hh] at hble; cases hble
          obtain ⟨cs0, s1, k1, k2⟩ := Fr.bind_run hr2
          obtain ⟨r1, q1, q2, p', C, e0, hc⟩ := cellsOf_sound h k1
          obtain rfl := Option.some.inj (hc.at_.symm.trans hp)
          obtain ⟨hb3, k2⟩ := cond_run k2
          have hlen := Nat.le_of_ble_eq_true hb3
          obtain ⟨v1, v2⟩ := seg_load (P := P) hc hlen
          have hll : ((cs0.drop off).take (len * i.size)).length = len * i.size := by simp; omega
          obtain ⟨gc, R, cs, g1, g2, g3, g4⟩ := grow (some ⟨p'.b, p'.d + off, none⟩) len c _ (by omega) hfl (by simp only [Builtin.firstCells]; exact v2 w.drew rfl)
          obtain ⟨ψ, a1, a2, a3⟩ := newRow_sound (e := e) r1 (v1.append hv) (fun v hv => by
            rcases List.mem_append.1 hv with hv | hv
            · exact hc.one v (List.mem_of_mem_drop (List.mem_of_mem_take hv))
            · exact hn1 v hv) (by rw [List.length_append, hll, hnew, ← Nat.add_mul]) g1 g2 k2 hm g3
          exact ⟨ψ, _, _, g4, by rw [← q2]; exact a1, a2, a3⟩
    | _ => cases hr
end
end
end Go.Proofs.YtifcganfcjildaaGreatDoor.E
