/- Merged out of: OpensZ, E43. -/
import Derived.ChangeArms
import Derived.DataReads
import GoSem.ClaimJoined
import Derived.Test.YtifcganfcjildaaGreatDoorWWords
import Derived.Test.YtifcganfcjildaaGreatDoorJ1
import Derived.Test.YtifcganfcjildaaGreatDoorProg
import Derived.Test.YtifcganfcjildaaGreatDoorE42
/- OpensZ: a text of this claim's proof, as printed or written, without what the claim does not use. -/
namespace Go.Proofs.YtifcganfcjildaaGreatDoor.OpensZ
open Go.RowKit Go.Proofs.YtifcganfcjildaaGreatDoorW.PrintWords
open Go.Proofs.YtifcganfcjildaaGreatDoor.Opens (At choose_list)
def Light {H : Type} (P : Program) (t : TypeId) (d : DataW H) : Prop := ∀ n ∈ d.weights P t, n ≤ reachBytes
def AtZ {α : Type} (P : Program) (t : TypeId) (d : Kd α) (Wf : α → Prop) (fuel : Nat) : Prop :=
  ∀ (H : Type) (enc : TypeId × Value → H) (w : World) (cs : List Value) (x : DataW H × List MemPlace), DataW.trod enc P w 0 (fun _ => true) true fuel t cs = some x → Light P t x.1 → ∃ a, d.K w a cs ∧ Wf a
section
variable {P : Program} {t : TypeId} {fuel : Nat}
theorem of_At {α : Type} {d : Kd α} {Wf : α → Prop} (h : At P t d Wf fuel) : AtZ P t d Wf fuel := fun H enc w cs x hx _ => h H enc w cs x hx
theorem int {k : IntKind} (ht : P.underlying t = some (.int k)) : AtZ P t (Kd.int k) (fun n => (Lit.int k n).wf = true) fuel := of_At (Opens.int ht)
theorem bool (ht : P.underlying t = some .bool) : AtZ P t Kd.bool (fun _ => True) fuel := of_At (Opens.bool ht)
theorem string (ht : P.underlying t = some .string) : AtZ P t Kd.string (fun s => s.size ≤ reachBytes) fuel := fun _ _ _ _ _ h hl => by
  obtain ⟨s, rfl, rfl, _⟩ := DataW.trod_string ht h
  refine ⟨s, rfl, ?_⟩
  have := hl s.data.toList.length (by simp [DataW.weights])
  simpa using this
end
theorem all_mem {H : Type} {P : Program} {e : TypeId} {l : List (DataW H)} {d : DataW H} (hd : d ∈ l) : ∀ n ∈ d.weights P e, n ∈ DataW.weightsAll P e l := by
  induction l with
  | nil => cases hd
  | cons a l ih =>
    intro n hn
    simp only [DataW.weightsAll, List.mem_append]
    rcases List.mem_cons.1 hd with rfl | h
    · exact .inl hn
    · exact .inr (ih h n hn)
theorem slice {α : Type} {P : Program} {t e : TypeId} {d : Kd α} {Wf : α → Prop} {fuel : Nat} (ht : P.underlying t = some (.slice e)) (hsz : P.cellsOf e = d.sz) (he : AtZ P e d Wf fuel) :
    AtZ P t (Kd.slice e d) (fun l => l.length ≤ maxLen ∧ l.length * P.bytesOf e ≤ reachBytes ∧ ∀ x ∈ l, Wf x) (fuel + 1) := fun H enc w cs x h hw => by
  rcases DataW.trod_slice ht h with ⟨rfl, _⟩ | ⟨a, len, cap, elems, rest, n, hn, rfl, hx, _, hlc, hcm, hel, hall, _⟩
  · refine ⟨[], ⟨none, 0, rfl, Nat.le_refl _, rfl, by simp, fun h => absurd h (by simp)⟩, by simp, by simp, fun x hx => by cases hx⟩
  · obtain rfl : n = fuel := by omega
    have hW : ∀ m ∈ (elems.length + rest.length) * P.bytesOf e :: (DataW.weightsAll P e (elems.map (·.1)) ++ DataW.weightsAll P e (rest.map (·.1))), m ≤ reachBytes := by
      intro m hm
      apply hw m
      rw [hx]
      simp only [DataW.weights, ht, List.length_map]
      exact hm
    have hone : ∀ i, i < len → ∃ b, (∃ c, d.K w b c ∧ c.length = d.sz ∧ ∀ q u, c[q]? = some u → w.cell? (a.add (i * d.sz + q)) = some u) ∧ Wf b := fun i hi => by
      have h1 := hall i hi
      rw [List.getElem?_eq_getElem (by omega)] at h1
      obtain ⟨c, hc, ht'⟩ := Option.bind_eq_some_iff.1 h1
      have hlt : i < elems.length := by omega
      obtain ⟨b, hb, hw⟩ := he H enc w c _ ht' (fun m hm => hW m (List.mem_cons_of_mem _ (List.mem_append_left _ (all_mem (List.mem_map.2 ⟨_, List.getElem_mem hlt, rfl⟩) m hm))))
      refine ⟨b, ⟨c, hb, d.K_len hb, fun q u hq => ?_⟩, hw⟩
      obtain ⟨_, hlen, hcell⟩ := World.cells?_some hc
      have hq' : q < c.length := (List.getElem?_eq_some_iff.1 hq).1
      have := hcell q (by omega)
      rw [hsz] at this hlen
      rw [← Addr.add_add a (i * d.sz) q, this]; exact hq
    obtain ⟨l, hl, hp⟩ := choose_list len hone
    have hb0 := hW _ List.mem_cons_self
    refine ⟨l, ⟨some a, cap, by rw [hl], by omega, rfl, by simp only [maxLen] at hcm; omega, fun _ => ⟨a, rfl, fun j p hj => ?_⟩⟩, by simp only [maxLen] at hcm ⊢; omega, ?_, fun x hx => ?_⟩
    · obtain ⟨⟨c, hk, hcl, hcc⟩, _⟩ := hp j p hj
      exact ⟨c, hcl, hk, hcc⟩
    · refine Nat.le_trans (Nat.mul_le_mul_right _ (by omega : l.length ≤ elems.length + rest.length)) hb0
    · obtain ⟨i, hi, rfl⟩ := List.getElem_of_mem hx
      exact (hp i _ (List.getElem?_eq_getElem hi)).2
def FieldsZ {α : Type} (P : Program) (fs : List Field) (off : Nat) (d : Kd α) (Wf : α → Prop) (fuel : Nat) : Prop :=
  ∀ (H : Type) (enc : TypeId × Value → H) (w : World) (cs : List Value), off + d.sz ≤ cs.length →
    (∀ f ∈ fs, ∃ x, DataW.trod (H := H) enc P w 0 (fun _ => true) true fuel f.type ((cs.drop f.offset).take (P.cellsOf f.type)) = some x ∧ Light P f.type x.1) →
    ∃ a, d.K w a ((cs.drop off).take d.sz) ∧ Wf a
theorem fields_one {α : Type} {P : Program} {f : Field} {d : Kd α} {Wf : α → Prop} {fuel : Nat} (h : AtZ P f.type d Wf fuel) (hsz : P.cellsOf f.type = d.sz) : FieldsZ P [f] f.offset d Wf fuel := fun H enc w cs _ hx => by
  obtain ⟨x, hx, hl⟩ := hx f (List.mem_singleton.2 rfl)
  rw [hsz] at hx
  exact h H enc w _ _ hx hl
theorem fields_cons {α β : Type} {P : Program} {f : Field} {fs : List Field} {d : Kd α} {d' : Kd β} {Wf : α → Prop} {Wf' : β → Prop} {fuel : Nat} (h : AtZ P f.type d Wf fuel) (hsz : P.cellsOf f.type = d.sz) (hr : FieldsZ P fs (f.offset + d.sz) d' Wf' fuel) :
    FieldsZ P (f :: fs) f.offset (Kd.pair d d') (fun x => Wf x.1 ∧ Wf' x.2) fuel := fun H enc w cs hl hx => by
  have hl' : f.offset + (d.sz + d'.sz) ≤ cs.length := hl
  obtain ⟨a, ha, hwa⟩ := fields_one h hsz H enc w cs (by omega) (fun g hg => hx g (by rw [List.mem_singleton.1 hg]; exact List.mem_cons_self))
  obtain ⟨b, hb, hwb⟩ := hr H enc w cs (by omega) (fun g hg => hx g (List.mem_cons_of_mem _ hg))
  refine ⟨(a, b), ⟨_, _, ?_, ha, hb⟩, hwa, hwb⟩
  show (cs.drop f.offset).take (d.sz + d'.sz) = _
  rw [List.take_add, List.drop_drop]
theorem each_mem {H : Type} {P : Program} : ∀ {ts : List TypeId} {l : List (DataW H)} {i : Nat} {t : TypeId} {d : DataW H}, ts[i]? = some t → l[i]? = some d → ∀ n ∈ d.weights P t, n ∈ DataW.weightsEach P ts l
  | [], _, _, _, _, h, _ => by simp at h
  | _ :: _, [], _, _, _, _, h => by simp at h
  | t0 :: ts, d0 :: l, 0, t, d, ht, hd => by
    intro n hn
    simp only [List.getElem?_cons_zero, Option.some.injEq] at ht hd
    subst ht; subst hd
    simp only [DataW.weightsEach, List.mem_append]
    exact .inl hn
  | t0 :: ts, d0 :: l, i + 1, t, d, ht, hd => by
    intro n hn
    simp only [List.getElem?_cons_succ] at ht hd
    simp only [DataW.weightsEach, List.mem_append]
    exact .inr (each_mem ht hd n hn)
theorem struct {α β : Type} {P : Program} {t : TypeId} {fs : Array Field} {d : Kd α} {Wf : α → Prop} {fuel : Nat} (ht : P.underlying t = some (.struct fs)) (hsz : P.cellsOf t = d.sz) (h : FieldsZ P fs.toList 0 d Wf fuel) (f : β → α) (g : α → β) (hfg : ∀ x, f (g x) = x) :
    AtZ P t (Kd.iso d f) (fun y => Wf (f y)) (fuel + 1) := fun H enc w cs x hx hw => by
  obtain ⟨xs, n, hn, rfl, hlen, hxs, hall⟩ := DataW.trod_struct ht hx
  obtain rfl : n = fuel := by omega
  rw [hsz] at hlen
  obtain ⟨a, ha, hw⟩ := h H enc w cs (by omega) (fun q hq => by
    obtain ⟨i, hi, rfl⟩ := List.getElem_of_mem hq
    have hi' : i < fs.size := by simpa using hi
    have := hall i fs[i] (Array.getElem?_eq_getElem hi')
    rw [List.getElem?_eq_getElem (by omega)] at this
    refine ⟨_, by simpa using this, fun m hm => hw m ?_⟩
    simp only [DataW.weights, ht]
    exact each_mem (i := i) (t := fs.toList[i].type) (d := xs[i].1) (by simp [hi']) (by simp [show i < xs.length by omega]) m hm)
  rw [List.drop_zero, List.take_of_length_le (by omega)] at ha
  exact ⟨g a, by show d.K w (f (g a)) cs; rw [hfg]; exact ha, by show Wf (f (g a)); rw [hfg]; exact hw⟩
theorem zero {α : Type} {P : Program} {t : TypeId} {d : Kd α} {Wf : α → Prop} : AtZ P t d Wf 0 := fun _ _ _ _ _ h => by simp [DataW.trod] at h
theorem mono_wf {α : Type} {P : Program} {t : TypeId} {d : Kd α} {Wf Wf' : α → Prop} {fuel : Nat} (h : AtZ P t d Wf fuel) (hi : ∀ x, Wf x → Wf' x) : AtZ P t d Wf' fuel := fun H enc w cs x hx hl => by
  obtain ⟨a, ha, hw⟩ := h H enc w cs x hx hl
  exact ⟨a, ha, hi a hw⟩
theorem of_Trod {α : Type} {P : Program} {t : TypeId} {d : Kd α} {Wf : α → Prop} (h : ∀ fuel, AtZ P t d Wf fuel) {H : Type} {enc : TypeId × Value → H} {w : World} {v : Value} {x : DataW H} {ps : List MemPlace}
    (hx : DataW.Trod enc P w 0 (fun _ => true) true t v x ps) (hl : Light P t x) : ∃ a, d.K w a v.cells.toList ∧ Wf a := by
  obtain ⟨fuel, hx⟩ := hx
  exact h fuel H enc w _ _ hx hl
theorem light_of {H : Type} {P : Program} {ts : List TypeId} {ds : List (DataW H)} (h : (DataW.weightsEach P ts ds).all (· ≤ reachBytes) = true) {i : Nat} {t : TypeId} {d : DataW H} (ht : ts[i]? = some t) (hd : ds[i]? = some d) : Light P t d :=
  fun n hn => by
    have := List.all_eq_true.1 h n (each_mem ht hd n hn)
    simpa using this
end Go.Proofs.YtifcganfcjildaaGreatDoor.OpensZ

/- One step of a frame. -/
namespace Go.Proofs.YtifcganfcjildaaGreatDoor.E
open Go Go.RowKit
set_option linter.unusedVariables false
set_option linter.unusedSimpArgs false
set_option linter.unnecessarySimpa false
noncomputable section

section
variable {X : Ctx} {n0 : Nat} {w0 : World} {rec : AF → Fr Fin} {lm : Nat} {φ : Map} {s s' : HS} {w : World}
theorem to_ok {A : AF} {fr : Frame} {cs0 cs : List Frame} (h : Rel n0 w0 lm φ s w) (hf : FrR φ A fr) (hups : Ups φ A.dfd A.up cs0 cs) (hmd : A.mode = .run) {k' : List AI} {K : List Item} (hs : step X.P (lone fr cs w) = .next (lone { fr with todo := K } cs w)) (hk : IRs φ k' K) :
    StepOk X.P n0 w0 lm φ s s w A (lone fr cs w) cs0 (.go ⟨A.fn, A.N, A.T, k', A.defers, .run, A.dfd, A.up, A.round⟩) := by
  refine ⟨φ, w, _, cs, .one hs, Ext.refl _ _ _, h, ⟨hf.fn, hf.tmps, fun _ => hk, hf.defers, ?_, hf.kind, hf.round⟩, hups, rfl, rfl, rfl⟩
  have := hf.mode
  rw [hmd] at this
  exact this
theorem FrR.runs {A : AF} {fr : Frame} (hf : FrR φ A fr) (hmd : A.mode = .run) : fr.mode = .run := by
  have hq := hf.mode
  rw [hmd] at hq
  generalize fr.mode = q at *
  cases hq; rfl
/-- After an operation of a region that draws no order. -/
theorem op_end {A : AF} {fr : Frame} {cs0 cs cs' : List Frame} {ops : Array Oper} {i : Nat} {rest : List Nat} {k : List AI} {K : List Item} {o : Oper} (hf : FrR φ A fr) (hmd : A.mode = .run) (ht : fr.todo = .inRegion ops (i :: rest) :: K) (hK : IRs φ k K) (ho : ops[i]? = some o)
    {ψ : Map} {w' : World} {V : Value} {v : AV} {T' : Temps} {up' : AMd} {defers' : List AD} {fr' : Frame} (he : Ext s.next s'.next φ ψ) (hR : Rel n0 w0 lm ψ s' w') (hv : VR ψ v V) (hp : putT A.N A.T o.dst v = some T') (hups : Ups ψ A.dfd up' cs0 cs') (hd : DRs ψ defers' fr'.defers)
    (hfr : fr' = { fr with defers := fr'.defers }) (hs : Steps X.P (lone fr cs w) (lone (fr'.finish V) cs' w')) :
    StepOk X.P n0 w0 lm φ s s' w A (lone fr cs w) cs0 (.go ⟨A.fn, A.N, T', .reg ops rest :: k, defers', .run, A.dfd, up', A.round⟩) := by
  have ht' : fr'.todo = .inRegion ops (i :: rest) :: K := by rw [hfr]; exact ht
  rw [finish_reg ht' ho] at hs
  have htm : fr'.tmps = fr.tmps := by rw [hfr]
  refine ⟨ψ, w', _, cs', hs, he, hR, ⟨?_, ?_, fun _ => .cons (.reg _ _) (hK.mono he.le), hd, ?_, ?_, ?_⟩, hups, rfl, rfl, rfl⟩
  · show fr'.fn = A.fn
    rw [hfr]; exact hf.fn
  · show FRel A.N ψ T' ⟨putV fr'.tmps o.dst V, []⟩
    rw [htm]; exact (hf.tmps.mono he.le).put hv hp
  · show MR ψ .run fr'.mode
    rw [hfr]
    show MR ψ .run fr.mode
    rw [hf.runs hmd]; exact .run
  · show fr'.kind = _
    rw [hfr]; exact hf.kind
  · have := (hf.mono he.le).round
    show (A.round = none ∧ fr'.roundOf = none) ∨ ∃ h p, A.round = some h ∧ ψ h = some p ∧ fr'.roundOf = some p.b
    rw [hfr]; exact this
theorem spOf_recover {o : Op} (h : spOf o = .recover) : ∃ args ats, o = .call { callee := .builtin .recover, args := args, argTypes := ats } := by
  unfold spOf at h
  split at h
  · cases h
  · next c =>
    obtain ⟨callee, args, ats⟩ := c
    dsimp only at h
    split at h
    · split at h
      · exact ⟨args, ats, rfl⟩
      · cases h
    · cases h
  · cases h
theorem spOf_defer {o : Op} {c : Call} (h : spOf o = .defer c) : o = .defer c := by
  unfold spOf at h
  split at h
  · obtain rfl := Sp.defer.inj h; rfl
  · next c =>
    obtain ⟨callee, args, ats⟩ := c
    dsimp only at h
    split at h
    · split at h <;> cases h
    · cases h
  · cases h
theorem ap_recover_none {P : Program} {fr : Frame} {cs : List Frame} {w w' : World} {q : Sem Next} (h : q.run P w = .ok .recover w') (hr : fr.roundOf = none) (ht : tryRecover fr cs = none) : (stepG.apply P true fr cs none q w).bare = .go { frame := fr.finish .nilIface, callers := cs, status := .running, dying := none } w' := by
  simp only [stepG.apply, if_true, Sem.runT_eq, h, GStep.bare_after, GStep.bare_go, hr, ht]
theorem ap_recover_some {P : Program} {fr : Frame} {cs cs' : List Frame} {w w' : World} {q : Sem Next} {V : Value} (h : q.run P w = .ok .recover w') (hr : fr.roundOf = none) (ht : tryRecover fr cs = some (V, cs')) : (stepG.apply P true fr cs none q w).bare = .go { frame := fr.finish V, callers := cs', status := .running, dying := none } w' := by
  simp only [stepG.apply, if_true, Sem.runT_eq, h, GStep.bare_after, GStep.bare_go, hr, ht]
/-- recover. -/
theorem recoverA_sound {dfd : Bool} {up up' : AMd} {v : AV} {cs0 cs : List Frame} (hr : recoverA dfd up = (v, up')) (hups : Ups φ dfd up cs0 cs) {fr : Frame} (hk : fr.kind = if dfd then .deferred else .normal) (hro : fr.roundOf = none) {P : Program} {q : Sem Next} (h : q.run P w = .ok .recover w) :
    ∃ V cs', VR φ v V ∧ Ups φ dfd up' cs0 cs' ∧ (stepG.apply P true fr cs none q w).bare = .go { frame := fr.finish V, callers := cs', status := .running, dying := none } w := by
  unfold recoverA at hr
  split at hr
  · next v0 older =>
    obtain ⟨rfl, rfl⟩ := Prod.mk.inj hr
    cases hups with
    | yes c k hm =>
      cases hm with
      | pan hc =>
        cases hc with
        | @cons _ V _ _ ks hv t =>
          refine ⟨V, { { c with mode := .panicking ({ v := V, recovered := false, goexit := false } :: ks) } with mode := .panicking ({ v := V, recovered := true } :: ks) } :: k, hv, .yes c k (.pan (.cons hv t)), ap_recover_some h hro ?_⟩
          simp [tryRecover, hk]
  · next hne =>
    obtain ⟨rfl, rfl⟩ := Prod.mk.inj hr
    refine ⟨.nilIface, cs, .nili, hups, ap_recover_none h hro ?_⟩
    cases dfd with
    | false => simp [tryRecover, hk]
    | true =>
      cases hups with
      | yes c k hm =>
        cases hm with
        | run => simp [tryRecover, hk]
        | ret => simp [tryRecover, hk]
        | pan hc =>
          cases hc with
          | nil => simp [tryRecover, hk]
          | @cons v0 V r _ ks hv t =>
            cases r with
            | true => simp [tryRecover, hk]
            | false => exact absurd rfl (hne v0 _ rfl)
end
end
end Go.Proofs.YtifcganfcjildaaGreatDoor.E

