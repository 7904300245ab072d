/- Merged out of: Opens, E29. -/
import Derived.ChangeArms
import Derived.DataReads
import Derived.Test.YtifcganfcjildaaGreatDoorWWords
import Derived.Test.YtifcganfcjildaaGreatDoorProg
import Derived.Test.YtifcganfcjildaaGreatDoorE28
/- Opens: a text of this claim's proof, as printed or written, without what the claim does not use. -/
namespace Go.Proofs.YtifcganfcjildaaGreatDoor.Opens
open Go.RowKit Go.Proofs.YtifcganfcjildaaGreatDoorW.PrintWords
def At {α : Type} (P : Program) (t : TypeId) (d : Kd α) (Wf : α → Prop) (fuel : Nat) : Prop :=
  ∀ (H : Type) (enc : TypeId × Value → H) (w : World) (cs : List Value) (x : DataW H × List MemPlace), DataW.trod enc P w 0 (fun _ => true) true fuel t cs = some x → ∃ a, d.K w a cs ∧ Wf a
section
variable {P : Program} {t : TypeId} {fuel : Nat}
theorem int {k : IntKind} (ht : P.underlying t = some (.int k)) : At P t (Kd.int k) (fun n => (Lit.int k n).wf = true) fuel := fun _ _ _ _ _ h => by
  obtain ⟨n, rfl, _, hw⟩ := DataW.trod_int ht h
  exact ⟨n, rfl, hw⟩
theorem bool (ht : P.underlying t = some .bool) : At P t Kd.bool (fun _ => True) fuel := fun _ _ _ _ _ h => by
  obtain ⟨b, rfl, _⟩ := DataW.trod_bool ht h
  exact ⟨b, rfl, trivial⟩
theorem string (ht : P.underlying t = some .string) : At P t Kd.string (fun s => s.size ≤ maxLen) fuel := fun _ _ _ _ _ h => by
  obtain ⟨s, rfl, _, hs⟩ := DataW.trod_string ht h
  exact ⟨s, rfl, hs⟩
end
theorem choose_list {α : Type} {p : Nat → α → Prop} : ∀ (n : Nat), (∀ i, i < n → ∃ a, p i a) → ∃ l : List α, l.length = n ∧ ∀ i a, l[i]? = some a → p i a
  | 0, _ => ⟨[], rfl, fun i a h => by simp at h⟩
  | n + 1, h => by
    obtain ⟨l, hl, hp⟩ := choose_list n (fun i hi => h i (by omega))
    obtain ⟨a, ha⟩ := h n (by omega)
    refine ⟨l ++ [a], by simp [hl], fun i b hb => ?_⟩
    by_cases hi : i < n
    · rw [List.getElem?_append_left (by omega)] at hb; exact hp i b hb
    · rw [List.getElem?_append_right (by omega)] at hb
      have : i - l.length = 0 := by
        cases hq : i - l.length with
        | zero => rfl
        | succ m => rw [hq] at hb; simp at hb
      rw [this] at hb; simp at hb; subst hb
      rw [show i = n by omega]; exact ha
theorem slice {α : Type} {P : Program} {t e : TypeId} {d : Kd α} {Wf : α → Prop} {fuel : Nat} (ht : P.underlying t = some (.slice e)) (hsz : P.cellsOf e = d.sz) (he : At P e d Wf fuel) :
    At P t (Kd.slice e d) (fun l => l.length ≤ maxLen ∧ ∀ x ∈ l, Wf x) (fuel + 1) := fun H enc w cs x h => by
  rcases DataW.trod_slice ht h with ⟨rfl, _⟩ | ⟨a, len, cap, elems, rest, n, hn, rfl, _, _, hlc, hcm, hel, hall, _⟩
  · refine ⟨[], ⟨none, 0, rfl, Nat.le_refl _, rfl, by simp, fun h => absurd h (by simp)⟩, by simp, fun x hx => by cases hx⟩
  · obtain rfl : n = fuel := by omega
    have hone : ∀ i, i < len → ∃ b, (∃ c, d.K w b c ∧ c.length = d.sz ∧ ∀ q u, c[q]? = some u → w.cell? (a.add (i * d.sz + q)) = some u) ∧ Wf b := fun i hi => by
      have h1 := hall i hi
      rw [List.getElem?_eq_getElem (by omega)] at h1
      obtain ⟨c, hc, ht'⟩ := Option.bind_eq_some_iff.1 h1
      obtain ⟨b, hb, hw⟩ := he H enc w c _ ht'
      refine ⟨b, ⟨c, hb, d.K_len hb, fun q u hq => ?_⟩, hw⟩
      obtain ⟨_, hlen, hcell⟩ := World.cells?_some hc
      have hq' : q < c.length := (List.getElem?_eq_some_iff.1 hq).1
      have := hcell q (by omega)
      rw [hsz] at this hlen
      rw [← Addr.add_add a (i * d.sz) q, this]; exact hq
    obtain ⟨l, hl, hp⟩ := choose_list len hone
    refine ⟨l, ⟨some a, cap, by rw [hl], by omega, rfl, by simp only [maxLen] at hcm; omega, fun _ => ⟨a, rfl, fun j p hj => ?_⟩⟩, by simp only [maxLen] at hcm ⊢; omega, fun x hx => ?_⟩
    · obtain ⟨⟨c, hk, hcl, hcc⟩, _⟩ := hp j p hj
      exact ⟨c, hcl, hk, hcc⟩
    · obtain ⟨i, hi, rfl⟩ := List.getElem_of_mem hx
      exact (hp i _ (List.getElem?_eq_getElem hi)).2
def Fields {α : Type} (P : Program) (fs : List Field) (off : Nat) (d : Kd α) (Wf : α → Prop) (fuel : Nat) : Prop :=
  ∀ (H : Type) (enc : TypeId × Value → H) (w : World) (cs : List Value), off + d.sz ≤ cs.length →
    (∀ f ∈ fs, ∃ x, DataW.trod (H := H) enc P w 0 (fun _ => true) true fuel f.type ((cs.drop f.offset).take (P.cellsOf f.type)) = some x) →
    ∃ a, d.K w a ((cs.drop off).take d.sz) ∧ Wf a
theorem fields_one {α : Type} {P : Program} {f : Field} {d : Kd α} {Wf : α → Prop} {fuel : Nat} (h : At P f.type d Wf fuel) (hsz : P.cellsOf f.type = d.sz) : Fields P [f] f.offset d Wf fuel := fun H enc w cs _ hx => by
  obtain ⟨x, hx⟩ := hx f (List.mem_singleton.2 rfl)
  rw [hsz] at hx
  exact h H enc w _ _ hx
theorem fields_cons {α β : Type} {P : Program} {f : Field} {fs : List Field} {d : Kd α} {d' : Kd β} {Wf : α → Prop} {Wf' : β → Prop} {fuel : Nat} (h : At P f.type d Wf fuel) (hsz : P.cellsOf f.type = d.sz) (hr : Fields P fs (f.offset + d.sz) d' Wf' fuel) :
    Fields P (f :: fs) f.offset (Kd.pair d d') (fun x => Wf x.1 ∧ Wf' x.2) fuel := fun H enc w cs hl hx => by
  have hl' : f.offset + (d.sz + d'.sz) ≤ cs.length := hl
  obtain ⟨a, ha, hwa⟩ := fields_one h hsz H enc w cs (by omega) (fun g hg => hx g (by rw [List.mem_singleton.1 hg]; exact List.mem_cons_self))
  obtain ⟨b, hb, hwb⟩ := hr H enc w cs (by omega) (fun g hg => hx g (List.mem_cons_of_mem _ hg))
  refine ⟨(a, b), ⟨_, _, ?_, ha, hb⟩, hwa, hwb⟩
  show (cs.drop f.offset).take (d.sz + d'.sz) = _
  rw [List.take_add, List.drop_drop]
theorem struct {α β : Type} {P : Program} {t : TypeId} {fs : Array Field} {d : Kd α} {Wf : α → Prop} {fuel : Nat} (ht : P.underlying t = some (.struct fs)) (hsz : P.cellsOf t = d.sz) (h : Fields P fs.toList 0 d Wf fuel) (f : β → α) (g : α → β) (hfg : ∀ x, f (g x) = x) :
    At P t (Kd.iso d f) (fun y => Wf (f y)) (fuel + 1) := fun H enc w cs x hx => by
  obtain ⟨xs, n, hn, _, hlen, hxs, hall⟩ := DataW.trod_struct ht hx
  obtain rfl : n = fuel := by omega
  rw [hsz] at hlen
  obtain ⟨a, ha, hw⟩ := h H enc w cs (by omega) (fun q hq => by
    obtain ⟨i, hi, rfl⟩ := List.getElem_of_mem hq
    have hi' : i < fs.size := by simpa using hi
    have := hall i fs[i] (Array.getElem?_eq_getElem hi')
    rw [List.getElem?_eq_getElem (by omega)] at this
    exact ⟨_, by simpa using this⟩)
  rw [List.drop_zero, List.take_of_length_le (by omega)] at ha
  exact ⟨g a, by show d.K w (f (g a)) cs; rw [hfg]; exact ha, by show Wf (f (g a)); rw [hfg]; exact hw⟩
theorem zero {α : Type} {P : Program} {t : TypeId} {d : Kd α} {Wf : α → Prop} : At P t d Wf 0 := fun _ _ _ _ _ h => by simp [DataW.trod] at h
theorem fix_ {α : Type} {P : Program} {t : TypeId} {F : Kd α → Kd α} {sz : Nat} {E : List Nat} {hs : ∀ n, (Kd.upto F sz E n).sz = sz} {hE : ∀ n q, q ∈ (Kd.upto F sz E n).E → q ∈ E} {Wf : α → Prop}
    (h : ∀ fuel, At P t (Kd.upto F sz E fuel) Wf fuel) (fuel : Nat) : At P t (Kd.fix F sz E hs hE) Wf fuel := fun H enc w cs x hx => by
  obtain ⟨a, ha, hw⟩ := h fuel H enc w cs x hx
  exact ⟨a, ⟨fuel, ha⟩, hw⟩
theorem mono_wf {α : Type} {P : Program} {t : TypeId} {d : Kd α} {Wf Wf' : α → Prop} {fuel : Nat} (h : At P t d Wf fuel) (hi : ∀ x, Wf x → Wf' x) : At P t d Wf' fuel := fun H enc w cs x hx => by
  obtain ⟨a, ha, hw⟩ := h H enc w cs x hx
  exact ⟨a, ha, hi a hw⟩
theorem of_Trod {α : Type} {P : Program} {t : TypeId} {d : Kd α} {Wf : α → Prop} (h : ∀ fuel, At P t d Wf fuel) {H : Type} {enc : TypeId × Value → H} {w : World} {v : Value} {x : DataW H} {ps : List MemPlace}
    (hx : DataW.Trod enc P w 0 (fun _ => true) true t v x ps) : ∃ a, d.K w a v.cells.toList ∧ Wf a := by
  obtain ⟨fuel, hx⟩ := hx
  exact h fuel H enc w _ _ hx
end Go.Proofs.YtifcganfcjildaaGreatDoor.Opens

/- One operation of the machine over names is the model's. -/
namespace Go.Proofs.YtifcganfcjildaaGreatDoor.E
open Go Go.RowKit
set_option linter.unusedVariables false
set_option linter.unusedSimpArgs false
set_option linter.unnecessarySimpa false
noncomputable section

/-- What stands beside the code answers as the model does. -/
structure XOk (X : Ctx) (n0 : Nat) (w0 : World) : Prop where
  num : ∀ (g : Nat) (fn : Func), X.P.funcs[g]? = some fn → (fn.name == "runtime.NumGoroutine") = false
  ext : ∀ g e, X.ext g = some e → ∀ (args : List AV) (v : AV) (s s' : HS), (e args).run s = some (v, s') → ∀ (lm : Nat) (φ : Map) (w : World) (L : Array Value), Rel n0 w0 lm φ s w → s'.next ≤ lm → VRs φ args L.toList →
  ∃ ψ w' V, (callFunc g L).run X.P w = .ok (.value V) w' ∧ Ext s.next s'.next φ ψ ∧ Rel n0 w0 lm ψ s' w' ∧ VR ψ v V
  sum : ∀ g e, X.sum g = some e → ∀ (args : List AV) (v : AV) (s s' : HS), (e args).run s = some (v, s') → ∀ (lm : Nat) (φ : Map) (w : World) (L : Array Value), Rel n0 w0 lm φ s w → s'.next ≤ lm → VRs φ args L.toList → ∀ (c : Frame) (cs : List Frame),
    ∃ ψ w' V, Ext s.next s'.next φ ψ ∧ Rel n0 w0 lm ψ s' w' ∧ VR ψ v V ∧ Steps X.P (lone (Frame.enter X.P g L .normal) (c :: cs) w) (lone (c.finish V) cs w')
section
variable {X : Ctx} {n0 : Nat} {w0 : World} {lm : Nat} {φ : Map} {s s' : HS} {w : World} {N : Nat} {T : Temps} {a : Act} {o : Oper}
/-- What an operation's answer means in a world. -/
def OpOk (X : Ctx) (n0 : Nat) (w0 : World) (lm : Nat) (φ : Map) (s s' : HS) (w : World) (a : Act) (o : Oper) : Re → Prop
  | .val v => ∃ ψ w' V, ((execOp a.eval o).run X.P w = .ok (.value V) w' ∨ ((execOp a.eval o).run X.P w = .ok .skip w' ∧ V = undef)) ∧ Ext s.next s'.next φ ψ ∧ Rel n0 w0 lm ψ s' w' ∧ VR ψ v V
  | .pan v => ∃ V, (execOp a.eval o).run X.P w = .halt (.panic V) w ∧ s' = s ∧ VR φ v V
  | .call g args => ∃ L : Array Value, (execOp a.eval o).run X.P w = .ok (.enter g L) w ∧ s' = s ∧ VRs φ args L.toList
  | .yld h args => ∃ (p : Pl) (L : Array Value), (execOp a.eval o).run X.P w = (Instr.yield p.b L).run X.P w ∧ s' = s ∧ φ h = some p ∧ VRs φ args L.toList
theorem OpOk.ans {v : AV} {m : Sem Value} (h : Ans X.P n0 w0 lm φ s s' v m w) (he : ∀ V w', m.run X.P w = .ok V w' → (execOp a.eval o).run X.P w = .ok (.value V) w') : OpOk X n0 w0 lm φ s s' w a o (.val v) := by
  obtain ⟨ψ, w', V, h1, h2, h3, h4⟩ := h
  exact ⟨ψ, w', V, .inl (he V w' h1), h2, h3, h4⟩
theorem OpOk.same {v : AV} {V : Value} (h : Rel n0 w0 lm φ s w) (he : (execOp a.eval o).run X.P w = .ok (.value V) w) (hv : VR φ v V) : OpOk X n0 w0 lm φ s s w a o (.val v) :=
  ⟨φ, w, V, .inl he, Ext.refl _ _ _, h, hv⟩
theorem OpOk.ofVal {v : AV} {m : Sem Value} (h : Rel n0 w0 lm φ s w) (hv : Val X.P φ w v m) (he : ∀ V w', m.run X.P w = .ok V w' → (execOp a.eval o).run X.P w = .ok (.value V) w') : OpOk X n0 w0 lm φ s s w a o (.val v) := by
  obtain ⟨V, h1, h2⟩ := hv
  exact OpOk.same h (he V w h1) h2
theorem vO_run {x : Option AV} {r : Re} (h : (vO x).run s = some (r, s')) : ∃ v, x = some v ∧ r = .val v ∧ s' = s := by
  cases x with
  | none => cases h
  | some v => obtain ⟨rfl, rfl⟩ := Fr.ret_run h; exact ⟨v, rfl, rfl, rfl⟩
theorem vF_run {m : Fr AV} {r : Re} (h : (vF m).run s = some (r, s')) : ∃ v, m.run s = some (v, s') ∧ r = .val v := by
  obtain ⟨v, s1, h1, h2⟩ := Fr.bind_run h
  obtain ⟨rfl, rfl⟩ := Fr.ret_run h2
  exact ⟨v, h1, rfl⟩
theorem with1_run {x : Operand} {k : AV → Fr Re} {r : Re} (h : (with1 T x k).run s = some (r, s')) : ∃ v, evO T x = some v ∧ (k v).run s = some (r, s') := by
  unfold with1 at h
  cases e : evO T x with
  | none => rw [e] at h; cases h
  | some v => rw [e] at h; exact ⟨v, rfl, h⟩
theorem with2_run {x y : Operand} {k : AV → AV → Fr Re} {r : Re} (h : (with2 T x y k).run s = some (r, s')) : ∃ v u, evO T x = some v ∧ evO T y = some u ∧ (k v u).run s = some (r, s') := by
  unfold with2 at h
  split at h
  · next v u h1 h2 => exact ⟨v, u, h1, h2, h⟩
  · cases h
theorem with3_run {x y z : Operand} {k : AV → AV → AV → Fr Re} {r : Re} (h : (with3 T x y z k).run s = some (r, s')) : ∃ v u t, evO T x = some v ∧ evO T y = some u ∧ evO T z = some t ∧ (k v u t).run s = some (r, s') := by
  unfold with3 at h
  split at h
  · next v u t h1 h2 h3 => exact ⟨v, u, t, h1, h2, h3, h⟩
  · cases h
theorem evPs_sound (hf : FRel N φ T a) : ∀ {l : List (Nat × Operand)} {k : List (Nat × AV)}, evPs T l = some k → PRs φ k (l.map fun p => (p.1, a.eval p.2))
  | [], k, e => by obtain rfl := Option.some.inj e; exact .nil
  | (i, x) :: l, k, e => by
    unfold evPs at e
    split at e
    · next u v h1 h2 => obtain rfl := Option.some.inj e; exact .cons (evO_sound hf h1) (evPs_sound hf h2)
    · cases e
theorem evPs_array (hf : FRel N φ T a) {ps : Array (Nat × Operand)} {k : List (Nat × AV)} (e : evPs T ps.toList = some k) : PRs φ k (ps.map fun (i, x) => (i, a.eval x)).toList := by
  rw [Array.toList_map]; exact evPs_sound hf e
theorem evOs_array (hf : FRel N φ T a) {xs : Array Operand} {k : List AV} (e : evOs T xs.toList = some k) : VRs φ k (xs.map a.eval).toList := by
  rw [Array.toList_map]; exact evOs_sound hf e
end
end
end Go.Proofs.YtifcganfcjildaaGreatDoor.E

