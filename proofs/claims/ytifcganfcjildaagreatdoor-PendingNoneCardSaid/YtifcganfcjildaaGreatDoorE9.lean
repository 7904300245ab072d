/- append, in place and into a new row. -/
import Derived.Deep.AppendSrc
import Derived.Deep.Upon
import Derived.Test.YtifcganfcjildaaGreatDoorE8
namespace Go.Proofs.YtifcganfcjildaaGreatDoor.E
open Go Go.RowKit
set_option linter.unusedVariables false
set_option linter.unusedSimpArgs false
set_option linter.unnecessarySimpa false
noncomputable section

/-- Cells laid in place. -/
theorem setCells_put (w : World) {b off : Nat} {C : Array Value} {e : TypeId} {vs : List Value} (hg : w.heap[b]? = some (.cells C e (0, 0))) (hle : off + vs.length ≤ C.size) (h1 : ∀ v ∈ vs, v.oneCell' = true) :
    w.setCells b off vs = w.putObj b (.cells (C.toList.take off ++ vs ++ C.toList.drop (off + vs.length)).toArray e (0, 0)) := by
  have a1 := run_storeCells_at (P := (default : Program)) b off e vs 0 C w hg (by omega) h1
  have a2 := run_storeCells_cells (P := (default : Program)) b off vs 0 w (fun j hj => by rw [cell_at w hg, Array.getElem?_eq_getElem (by omega)]; rfl) (fun j hj => by simp [World.frozen?, hg]) h1
  rw [a1, setRow_put w hg] at a2
  injection a2 with _ a3
  rw [Nat.add_zero] at a3
  exact a3.symm
theorem cells_isSome (w : World) {b off n : Nat} {C : Array Value} {e : TypeId} (hg : w.heap[b]? = some (.cells C e (0, 0))) (hle : off + n ≤ C.size) : (∀ j, j < n → (w.cell? ⟨b, off + j, none⟩).isSome = true) ∧ ∀ j, j < n → w.frozen? ⟨b, off + j, none⟩ = false :=
  ⟨fun j hj => by rw [cell_at w hg, Array.getElem?_eq_getElem (by omega)]; rfl, fun j hj => by simp [World.frozen?, hg]⟩
theorem seg_put {C : Array Value} {d n : Nat} {vs : List Value} (hle : d + n + vs.length ≤ C.size) :
    seg (C.toList.take (d + n) ++ vs ++ C.toList.drop (d + n + vs.length)).toArray d (n + vs.length) = seg C d n ++ vs := by
  unfold seg
  simp only []
  apply List.ext_getElem?
  intro i
  by_cases c : i < n + vs.length
  · rw [List.getElem?_take_of_lt c, List.getElem?_drop]
    by_cases c1 : i < n
    · rw [List.append_assoc, List.getElem?_append_left (by simp; omega), List.getElem?_take_of_lt (by omega), List.getElem?_append_left (by simp; omega), List.getElem?_take_of_lt c1, List.getElem?_drop]
    · rw [List.append_assoc, List.getElem?_append_right (by simp; omega), List.getElem?_append_left (by simp; omega), List.getElem?_append_right (by simp; omega)]
      congr 1; simp; omega
  · rw [List.getElem?_eq_none (by simp; omega), List.getElem?_eq_none (by simp; omega)]
section
variable {P : Program} {n0 : Nat} {w0 : World} {lm : Nat} {φ : Map} {s s' : HS} {w : World}
/-- A new row under a new name. -/
theorem newRow_sound (h : Rel n0 w0 lm φ s w) {l : List AV} {L R : List Value} {need gc es : Nat} {e : TypeId} {r : AV} (hl : VRs φ l L) (h1 : ∀ v ∈ l, v.one = true) (hlen : l.length = need * es) (hgc : need ≤ gc) (hR : R.length = (gc - need) * es)
    (hr : ((Fr.new (.cells l)).bind fun g => Fr.ret (AV.sl g 0 need es none)).run s = some (r, s')) (hm : s'.next ≤ lm) {cs : Array Value} (hcs : cs.toList = L ++ R) :
    ∃ ψ, Ext s.next s'.next φ ψ ∧ Rel n0 w0 lm ψ s' (w.drew.alloc (.cells cs e)) ∧ VR ψ r (.slice (some ⟨w.heap.size, 0, none⟩) need gc) := by
  obtain ⟨g, s1, k1, k2⟩ := Fr.bind_run hr
  obtain ⟨rfl, rfl⟩ := Fr.ret_run k2
  have hll := hl.length
  have hsz : cs.size = gc * es := by
    have : cs.toList.length = _ := congrArg List.length hcs
    rw [Array.length_toList, List.length_append, ← hll, hlen, hR, ← Nat.add_mul] at this
    rw [this]; congr 1; omega
  have hmul : need * es ≤ gc * es := Nat.mul_le_mul_right _ hgc
  obtain ⟨e1, e2, e3, e4⟩ := h.drew.new k1 hm (.cells cs e) 0 cs.size rfl (.cells rfl (by simp; omega) (by
    have e0 : seg cs 0 l.length = L := by unfold seg; rw [List.drop_zero, hcs, hll, List.take_left]
    rw [e0]; exact hl.mono (h.drew.ext_add (by have := (Fr.new_run k1).2.1; omega) _).le) h1)
  refine ⟨_, e3, e4, ?_⟩
  have := VR.sl (φ := φ.add s.next ⟨w.heap.size, 0, cs.size⟩) (h := g) (off := 0) (len := need) (es := es) (c := gc) (cap := none) (p := ⟨w.heap.size, 0, cs.size⟩) (by rw [e1]; simp [Map.add]) (fun k hk => by cases hk) hgc (by simp [hsz]) (fun _ => by simp [hsz])
  simpa using this
/-- The old name is given up: there is room. -/
theorem growA_room (h : Rel n0 w0 lm φ s w) {j : Nat} {cs : List AV} (h0 : s.heap.get j = some (.cells cs)) {p : Pl} {C : Array Value} {e0 : TypeId} (hc : HasCells φ w j cs p C e0) {l new : List AV} {news : List Value} {need d c es : Nat}
    (hl : VRs φ l (seg C d l.length)) (h1 : ∀ v ∈ l, v.one = true) (hn : VRs φ new news) (hn1 : ∀ v ∈ new, v.one = true) (hlen : (l ++ new).length = need * es) (hroom : need ≤ c) (hfit : d + c * es ≤ p.n) (hfull : d + c * es = p.n) {r : AV}
    (hr : (growA j l need es new).run s = some (r, s')) (hm : s'.next ≤ lm) :
    ∃ ψ, Ext s.next s'.next φ ψ ∧ Rel n0 w0 lm ψ s' (w.setCells p.b (d + l.length) news) ∧ VR ψ r (.slice (some ⟨p.b, d, none⟩) need c) := by
  obtain ⟨u, s1, k1, k2⟩ := Fr.bind_run hr
  obtain ⟨g, s2, k3, k4⟩ := Fr.bind_run k2
  obtain ⟨rfl, rfl⟩ := Fr.ret_run k4
  obtain ⟨q1, q2⟩ := h.kill k1
  have hfree := kill_free h k1 h0 rfl hc.at_
  obtain ⟨p', b', o1, o2, o3, o4, o5⟩ := h.objs j _ h0 rfl
  obtain rfl := Option.some.inj (hc.at_.symm.trans o1)
  have hnl := hn.length
  have hle : d + l.length + news.length ≤ C.size := by
    rw [List.length_append] at hlen
    have := Nat.mul_le_mul_right es hroom
    rw [hc.size]; omega
  have hCl : C.toList.length = C.size := Array.length_toList
  rw [setCells_put w hc.blk hle (hn.one' hn1)]
  obtain ⟨a1, a2, a3, a4⟩ := q2.adopt k3 hm rfl ⟨p.b, d, p.n⟩ (o4 rfl) (h.dom j p hc.at_).2 hfree (.cells (C.toList.take (d + l.length) ++ news ++ C.toList.drop (d + l.length + news.length)).toArray e0 (0, 0))
    (.cells (by simp; rw [← hc.size]; omega) (by rw [hlen]; have := Nat.mul_le_mul_right es hroom; show d + need * es ≤ p.n; omega) (by
      show VRs _ _ (seg _ d _)
      rw [List.length_append, hnl, seg_put hle]
      exact (hl.append hn).mono (q2.ext_add (by have := (Fr.new_run k3).2.1; omega) _).le) (fun v hv => by
      rcases List.mem_append.1 hv with hv | hv
      · exact h1 v hv
      · exact hn1 v hv))
  refine ⟨_, by rw [← q1]; exact a3, a4, ?_⟩
  have := VR.sl (φ := φ.add s1.next ⟨p.b, d, p.n⟩) (h := g) (off := 0) (len := need) (es := es) (c := c) (cap := none) (p := ⟨p.b, d, p.n⟩) (by rw [a1]; simp [Map.add]) (fun k hk => by cases hk) hroom (by simpa using hfit) (fun _ => by simpa using hfull)
  simpa using this
/-- The old name is given up: there is none. -/
theorem growA_new (h : Rel n0 w0 lm φ s w) {j : Nat} {l new : List AV} {L news R : List Value} {need gc es : Nat} {e : TypeId}
    (hl : VRs φ l L) (h1 : ∀ v ∈ l, v.one = true) (hn : VRs φ new news) (hn1 : ∀ v ∈ new, v.one = true) (hlen : (l ++ new).length = need * es) (hgc : need ≤ gc) (hR : R.length = (gc - need) * es) {r : AV}
    (hr : (growA j l need es new).run s = some (r, s')) (hm : s'.next ≤ lm) {cs : Array Value} (hcs : cs.toList = (L ++ news) ++ R) :
    ∃ ψ, Ext s.next s'.next φ ψ ∧ Rel n0 w0 lm ψ s' (w.drew.alloc (.cells cs e)) ∧ VR ψ r (.slice (some ⟨w.heap.size, 0, none⟩) need gc) := by
  obtain ⟨u, s1, k1, k2⟩ := Fr.bind_run hr
  obtain ⟨q1, q2⟩ := h.kill k1
  obtain ⟨ψ, a1, a2, a3⟩ := newRow_sound (e := e) q2 (hl.append hn) (fun v hv => by
      rcases List.mem_append.1 hv with hv | hv
      · exact h1 v hv
      · exact hn1 v hv) hlen hgc hR k2 hm hcs
  exact ⟨ψ, by rw [← q1]; exact a1, a2, a3⟩
end
end
end Go.Proofs.YtifcganfcjildaaGreatDoor.E
