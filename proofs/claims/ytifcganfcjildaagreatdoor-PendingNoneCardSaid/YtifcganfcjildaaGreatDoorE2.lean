/- Worlds that bear what the names stand for. -/
import Derived.RangeFuncRecord
import Derived.Test.YtifcganfcjildaaGreatDoorE1
namespace Go.Proofs.YtifcganfcjildaaGreatDoor.E
open Go Go.RowKit
set_option linter.unusedVariables false
set_option linter.unusedSimpArgs false
set_option linter.unnecessarySimpa false
noncomputable section

/-- A value of one cell that is known. -/
def AV.one : AV → Bool
  | .undef | .agg _ | .tup _ => false
  | _ => true
inductive ERs (φ : Map) : List (AV × AV × Nat) → List MapEntry → Prop
  | nil : ERs φ [] []
  | cons {k v : AV} {x y : Value} {n : Nat} {l : List (AV × AV × Nat)} {m : List MapEntry} (hk : VR φ k x) (hv : VR φ v y) (t : ERs φ l m) : ERs φ ((k, v, n) :: l) (⟨x, y, n⟩ :: m)
theorem ERs.mono {φ ψ : Map} (h : φ.le ψ) : ∀ {l : List (AV × AV × Nat)} {m : List MapEntry}, ERs φ l m → ERs ψ l m
  | _, _, .nil => .nil
  | _, _, .cons a b t => .cons (a.mono h) (b.mono h) (ERs.mono h t)
/-- The cells from a place on. -/
def seg (C : Array Value) (d n : Nat) : List Value := (C.toList.drop d).take n
inductive OR (φ : Map) : AO → Obj → Pl → Prop
  | cells {cs : List AV} {C : Array Value} {e : TypeId} {p : Pl} (hs : C.size = p.n) (hd : p.d + cs.length ≤ p.n) (hv : VRs φ cs (seg C p.d cs.length)) (h1 : ∀ v ∈ cs, v.one = true) : OR φ (.cells cs) (.cells C e (0, 0)) p
  | still {cs : List AV} {C : Array Value} {e : TypeId} {p : Pl} (hs : C.size = p.n) (hd : p.d + cs.length ≤ p.n) (hv : VRs φ cs (seg C p.d cs.length)) (h1 : ∀ v ∈ cs, v.one = true) : OR φ (.still cs) (.cells C e (0, 0)) p
  | map {es : List (AV × AV × Nat)} {E : Array MapEntry} {c : Nat} {p : Pl} (h : ERs φ es E.toList) : OR φ (.map es c) (.map E c) p
  | sit {l : List Nat} {s : ByteArray} {pos : Nat} {p : Pl} (hd : p.d = 0) (h : s.data.toList.map (·.toNat) = l) : OR φ (.sit l pos) (.stringIter s pos) p
  | mit0 {since last : Nat} {seen : Array Nat} {p : Pl} (hd : p.d = 0) : OR φ (.mit none since seen.toList last) (.mapIter none since seen last) p
  | mit {since last h : Nat} {seen : Array Nat} {p q : Pl} (hd : p.d = 0) (hq : φ h = some q) : OR φ (.mit (some h) since seen.toList last) (.mapIter (some q.b) since seen last) p
  | loop {st : LoopState} {pend : Option Code} {fn N dh : Nat} {T : Tr AV} {tmps : Array Value} {params : Array Tmp} {assign body : Code} {p q : Pl} (hs : tmps.size = N) (ht : ∀ t v, T.get t = some v → t < N ∧ VR φ v (tmps.getD t undef)) (hq : φ dh = some q) : OR φ (.loop st pend fn N T params assign body dh) (.loop { state := st, pending := pend, fn, tmps, params, assign, body, defers := q.b }) p
  | dfr0 {p : Pl} : OR φ (.dfr false) (.deferred none) p
  | dfr1 {p : Pl} : OR φ (.dfr true) (.deferred (some [])) p
theorem OR.mono {φ ψ : Map} (h : φ.le ψ) {o : AO} {b : Obj} {p : Pl} : OR φ o b p → OR ψ o b p
  | .cells hs hd hv h1 => .cells hs hd (hv.mono h) h1
  | .still hs hd hv h1 => .still hs hd (hv.mono h) h1
  | .map e => .map (e.mono h)
  | .sit hd e => .sit hd e
  | .mit0 hd => .mit0 hd
  | .mit hd hq => .mit hd (h _ _ hq)
  | .loop hs ht hq => .loop hs (fun t v e => ⟨(ht t v e).1, (ht t v e).2.mono h⟩) (h _ _ hq)
  | .dfr0 => .dfr0
  | .dfr1 => .dfr1
def AO.own : AO → Bool
  | .still _ | .dead => false
  | _ => true
def AO.live : AO → Bool
  | .dead => false
  | _ => true
/-- The world bears what the names stand for; below n0 it is as w0 was. -/
structure Rel (n0 : Nat) (w0 : World) (lm : Nat) (φ : Map) (s : HS) (w : World) : Prop where
  below : Below n0 w0 w
  wf : ∀ h, s.next ≤ h → h < lm → s.heap.get h = none
  objs : ∀ h o, s.heap.get h = some o → o.live = true → ∃ p b, φ h = some p ∧ w.heap[p.b]? = some b ∧ OR φ o b p ∧ (o.own = true → n0 ≤ p.b) ∧ (o.own = false → p.b < n0)
  inj : ∀ h k o o' p p', s.heap.get h = some o → s.heap.get k = some o' → o.own = true → o'.own = true → φ h = some p → φ k = some p' → p.b = p'.b → h = k
  dom : ∀ h p, φ h = some p → s.heap.get h ≠ none ∧ p.b < w.heap.size
  base : n0 ≤ w.heap.size
/-- New names alone are told of. -/
structure Ext (n m : Nat) (φ ψ : Map) : Prop where
  le : φ.le ψ
  out : ∀ j, (j < n ∨ m ≤ j) → ψ j = φ j
theorem Ext.refl (n m : Nat) (φ : Map) : Ext n m φ φ := ⟨Map.le_refl _, fun _ _ => rfl⟩
theorem Ext.trans {n m k : Nat} {φ ψ χ : Map} (hnm : n ≤ m) (hmk : m ≤ k) (h : Ext n m φ ψ) (h' : Ext m k ψ χ) : Ext n k φ χ :=
  ⟨Map.le_trans h.le h'.le, fun j hj => (h'.out j (by omega)).trans (h.out j (by omega))⟩
section
variable {n0 : Nat} {w0 : World} {lm : Nat} {φ : Map} {s : HS} {w : World}
theorem Rel.drew (h : Rel n0 w0 lm φ s w) : Rel n0 w0 lm φ s w.drew :=
  ⟨h.below.drew, h.wf, h.objs, h.inj, h.dom, h.base⟩
theorem Rel.drawn (h : Rel n0 w0 lm φ s w) (k : Nat) : Rel n0 w0 lm φ s { w with drawn := k } :=
  ⟨h.below.trans ⟨rfl, rfl, rfl, Nat.le_refl _, fun _ _ => rfl⟩, h.wf, h.objs, h.inj, h.dom, h.base⟩
/-- Marks of reading and writing turn nothing. -/
theorem Rel.heap (h : Rel n0 w0 lm φ s w) {s' : HS} (e : s'.heap = s.heap) (e2 : s'.next = s.next) : Rel n0 w0 lm φ s' w :=
  ⟨h.below, by rw [e, e2]; exact h.wf, by rw [e]; exact h.objs, by rw [e]; exact h.inj, by rw [e]; exact h.dom, h.base⟩
def Map.add (φ : Map) (n : Nat) (p : Pl) : Map := fun j => if j = n then some p else φ j
theorem Rel.fresh (h : Rel n0 w0 lm φ s w) {j : Nat} (hj : s.next ≤ j) (hl : j < lm) : φ j = none := by
  cases e : φ j with
  | none => rfl
  | some p => exact absurd (h.wf j hj hl) (h.dom j p e).1
theorem Rel.ext_add (h : Rel n0 w0 lm φ s w) (hm : s.next + 1 ≤ lm) (p : Pl) : Ext s.next (s.next + 1) φ (φ.add s.next p) := by
  refine ⟨fun j q e => ?_, fun j hj => ?_⟩
  · unfold Map.add
    rw [if_neg]; exact e
    intro hj; subst hj; rw [h.fresh (Nat.le_refl _) (by omega)] at e; cases e
  · unfold Map.add
    rw [if_neg (by omega)]
theorem heap_alloc_new (w : World) (b : Obj) : (w.alloc b).heap[w.heap.size]? = some b := by
  show (w.heap.push b)[w.heap.size]? = some b
  simp
/-- A block is made. -/
theorem Rel.new (h : Rel n0 w0 lm φ s w) {o : AO} {n : Nat} {s' : HS} (hs : (Fr.new o).run s = some (n, s')) (hm : s'.next ≤ lm) (b : Obj) (d N : Nat) (ho : o.own = true)
    (hb : OR (φ.add s.next ⟨w.heap.size, d, N⟩) o b ⟨w.heap.size, d, N⟩) :
    n = s.next ∧ s'.next = s.next + 1 ∧ Ext s.next s'.next φ (φ.add s.next ⟨w.heap.size, d, N⟩) ∧ Rel n0 w0 lm (φ.add s.next ⟨w.heap.size, d, N⟩) s' (w.alloc b) := by
  obtain ⟨rfl, hn, hg⟩ := Fr.new_run hs
  have hle := h.ext_add (by omega) ⟨w.heap.size, d, N⟩
  have hsz : (w.alloc b).heap.size = w.heap.size + 1 := by show (w.heap.push b).size = _; rw [Array.size_push]
  have hadd : (φ.add s.next ⟨w.heap.size, d, N⟩) s.next = some ⟨w.heap.size, d, N⟩ := by simp [Map.add]
  have hother : ∀ j, j ≠ s.next → (φ.add s.next ⟨w.heap.size, d, N⟩) j = φ j := fun j hj => by simp [Map.add, hj]
  refine ⟨rfl, hn, by rw [hn]; exact hle, h.below.alloc h.base b, fun j hj hjl => ?_, fun j o' he hl => ?_, fun j k o1 o2 p p' e1 e2 w1 w2 q1 q2 hpp => ?_, fun j p e => ?_, by rw [hsz]; have := h.base; omega⟩
  · rw [hg j, if_neg (by omega)]; exact h.wf j (by omega) hjl
  · rw [hg j] at he
    by_cases c : j = s.next
    · rw [if_pos c] at he
      obtain rfl := Option.some.inj he
      subst c
      exact ⟨_, b, hadd, heap_alloc_new w b, hb, fun _ => h.base, fun hf => by rw [ho] at hf; cases hf⟩
    · rw [if_neg c] at he
      obtain ⟨p, b', q1, q2, q3, q4, q5⟩ := h.objs j o' he hl
      exact ⟨p, b', by rw [hother j c]; exact q1, by rw [Below.heap_alloc _ _ _ (h.dom j p q1).2]; exact q2, q3.mono hle.le, q4, q5⟩
  · rw [hg j] at e1; rw [hg k] at e2
    by_cases c : j = s.next
    · subst c
      by_cases c2 : k = s.next
      · exact c2.symm
      · rw [hadd] at q1; rw [hother k c2] at q2
        obtain rfl := Option.some.inj q1
        have := (h.dom k p' q2).2
        simp at hpp; omega
    · by_cases c2 : k = s.next
      · subst c2
        rw [hadd] at q2; rw [hother j c] at q1
        obtain rfl := Option.some.inj q2
        have := (h.dom j p q1).2
        simp at hpp; omega
      · rw [if_neg c] at e1; rw [if_neg c2] at e2
        rw [hother j c] at q1; rw [hother k c2] at q2
        exact h.inj j k o1 o2 p p' e1 e2 w1 w2 q1 q2 hpp
  · rw [hsz]
    by_cases c : j = s.next
    · subst c
      rw [hadd] at e
      obtain rfl := Option.some.inj e
      exact ⟨by rw [hg, if_pos rfl]; simp, by simp⟩
    · rw [hother j c] at e
      obtain ⟨q1, q2⟩ := h.dom j p e
      exact ⟨by rw [hg, if_neg c]; exact q1, by omega⟩
/-- What an own name stands for is written anew. -/
theorem Rel.set (h : Rel n0 w0 lm φ s w) {n : Nat} {o0 o : AO} {s' : HS} {u : Unit} (hs : (Fr.set n o).run s = some (u, s')) (h0 : s.heap.get n = some o0) (hown : o0.own = true) (hown' : o.own = true) {p : Pl} (hp : φ n = some p) (b : Obj) (hb : OR φ o b p) :
    s'.next = s.next ∧ Rel n0 w0 lm φ s' (w.putObj p.b b) := by
  obtain ⟨_, hn, hg⟩ := Fr.set_run hs
  have hpb := (h.dom n p hp).2
  have hlive : o0.live = true := by cases o0 <;> first | rfl | cases hown
  obtain ⟨p', b0, e1, e2, e3, e4, e5⟩ := h.objs n o0 h0 hlive
  obtain rfl : p' = p := Option.some.inj (e1.symm.trans hp)
  have hsz : (w.putObj p'.b b).heap.size = w.heap.size := by simp [World.putObj]
  refine ⟨hn, h.below.trans ⟨rfl, rfl, rfl, by rw [hsz]; exact Nat.le_refl _, fun k hk => World.putObj_heap_other (by have := e4 hown; omega)⟩, fun j hj hjl => ?_, fun j o' he hl => ?_, fun j k o1 o2 q q' f1 f2 g1 g2 q1 q2 hpp => ?_, fun j q e => ?_, by rw [hsz]; exact h.base⟩
  · rw [hn] at hj
    rw [hg j]
    by_cases c : j = n
    · subst c; rw [h.wf j hj hjl] at h0; cases h0
    · rw [if_neg c]; exact h.wf j hj hjl
  · rw [hg j] at he
    by_cases c : j = n
    · rw [if_pos c] at he
      obtain rfl := Option.some.inj he
      subst c
      exact ⟨p', b, hp, World.putObj_heap_same hpb, hb, fun _ => e4 hown, fun hf => by rw [hown'] at hf; cases hf⟩
    · rw [if_neg c] at he
      obtain ⟨q, b', q1, q2, q3, q4, q5⟩ := h.objs j o' he hl
      refine ⟨q, b', q1, ?_, q3, q4, q5⟩
      rw [World.putObj_heap_other]
      · exact q2
      · intro hbb
        cases ho : o'.own with
        | true => exact c (h.inj j n o' o0 q p' he h0 ho hown q1 hp hbb)
        | false => have := q5 ho; have := e4 hown; omega
  · rw [hg j] at f1; rw [hg k] at f2
    have key : ∀ (i : Nat) (x : AO), (if i = n then some o else s.heap.get i) = some x → x.own = true → ∃ y, s.heap.get i = some y ∧ y.own = true := fun i x hx hxo => by
      by_cases c : i = n
      · subst c; exact ⟨o0, h0, hown⟩
      · rw [if_neg c] at hx; exact ⟨x, hx, hxo⟩
    obtain ⟨y1, a1, a2⟩ := key j o1 f1 g1
    obtain ⟨y2, b1, b2⟩ := key k o2 f2 g2
    exact h.inj j k y1 y2 q q' a1 b1 a2 b2 q1 q2 hpp
  · rw [hsz]
    obtain ⟨q1, q2⟩ := h.dom j q e
    refine ⟨?_, q2⟩
    rw [hg j]
    by_cases c : j = n
    · rw [if_pos c]; simp
    · rw [if_neg c]; exact q1
/-- A name is given up. -/
theorem Rel.kill (h : Rel n0 w0 lm φ s w) {n : Nat} {s' : HS} {u : Unit} (hs : (Fr.set n .dead).run s = some (u, s')) : s'.next = s.next ∧ Rel n0 w0 lm φ s' w := by
  obtain ⟨⟨o0, h0⟩, hn, hg⟩ := Fr.set_run hs
  refine ⟨hn, h.below, fun j hj hjl => ?_, fun j o' he hl => ?_, fun j k o1 o2 q q' f1 f2 g1 g2 q1 q2 hpp => ?_, fun j q e => ?_, h.base⟩
  · rw [hn] at hj
    rw [hg j]
    by_cases c : j = n
    · subst c; rw [h.wf j hj hjl] at h0; cases h0
    · rw [if_neg c]; exact h.wf j hj hjl
  · rw [hg j] at he
    by_cases c : j = n
    · rw [if_pos c] at he; obtain rfl := Option.some.inj he; cases hl
    · rw [if_neg c] at he; exact h.objs j o' he hl
  · rw [hg j] at f1; rw [hg k] at f2
    by_cases c : j = n
    · rw [if_pos c] at f1; obtain rfl := Option.some.inj f1; cases g1
    · by_cases c2 : k = n
      · rw [if_pos c2] at f2; obtain rfl := Option.some.inj f2; cases g2
      · rw [if_neg c] at f1; rw [if_neg c2] at f2
        exact h.inj j k o1 o2 q q' f1 f2 g1 g2 q1 q2 hpp
  · obtain ⟨q1, q2⟩ := h.dom j q e
    refine ⟨?_, q2⟩
    rw [hg j]
    by_cases c : j = n
    · rw [if_pos c]; simp
    · rw [if_neg c]; exact q1
end
end
end Go.Proofs.YtifcganfcjildaaGreatDoor.E
