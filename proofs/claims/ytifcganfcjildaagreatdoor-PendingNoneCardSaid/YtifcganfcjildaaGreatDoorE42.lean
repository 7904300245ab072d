/- A region that draws its order, whole. -/
import Derived.Test.YtifcganfcjildaaGreatDoorE41
namespace Go.Proofs.YtifcganfcjildaaGreatDoor.E
open Go Go.RowKit
set_option linter.unusedVariables false
set_option linter.unusedSimpArgs false
set_option linter.unnecessarySimpa false
noncomputable section

theorem getD_rep (n i : Nat) : (Array.replicate n false).getD i false = false := by
  rw [Array.getD_eq_getD_getElem?]
  cases h : (Array.replicate n false)[i]? with
  | none => rfl
  | some b =>
    have := (Array.getElem?_eq_some_iff.1 h).2
    simp at this
    simp [← this]
def lsS (listed : Array Bool) : Nat → Bool := fun i => listed.getD i false
theorem lsS_set {listed : Array Bool} {i : Nat} (hi : i < listed.size) : lsS (listed.setIfInBounds i true) = addS (lsS listed) i := by
  funext j
  unfold lsS addS
  by_cases e : j = i
  · subst e; simp [hi]
  · rw [getD_set_ne false (fun h => e h.symm)]; simp [e]
section
variable {X : Ctx} {rec : AF → Fr Fin} {N : Nat} {ops : Array Oper} {c : Temps × HS} {m n0 : Nat} {w0 : World} {φ0 : Map} {B : Nat} {tm0 : Array Value} {ww0 : World}
/-- How a drawn region's run comes out. -/
def RegEnd (X : Ctx) (rec : AF → Fr Fin) (N : Nat) (ops : Array Oper) (c : Temps × HS) (m n0 : Nat) (w0 : World) (φ0 : Map) (B : Nat) (fr0 : Frame) (k : List Item) (cs : List Frame) (m0 : Machine) (ok : Bool) : Prop :=
  match ok with
  | true => ∃ ψ tm w S, Steps X.P m0 (lone { fr0 with tmps := tm, todo := .inRegion ops [] :: k } cs w) ∧ Inv X rec N ops c m n0 w0 φ0 B S ψ tm w ∧ ∀ i, i < m → S i = true
  | false => ∃ ψ tm w S rest, Steps X.P m0 (lone { fr0 with tmps := tm, todo := .inRegion ops (m :: rest) :: k } cs w) ∧ Inv X rec N ops c m n0 w0 φ0 B S ψ tm w ∧ ∀ i, i < m → S i = true
theorem all_listed {n : Nat} (hn : n = ops.size) (hord : orderly ops = true) {listed : Array Bool} (hs : listed.size = ops.size) (hr : Region.ready .any ops listed = []) : ∀ j, j < ops.size → lsS listed j = true := by
  intro j
  induction j using Nat.strongRecOn with
  | _ j ih =>
    intro hj
    cases hc : lsS listed j with
    | true => rfl
    | false =>
      exfalso
      have ho : ops[j]? = some ops[j] := Array.getElem?_eq_getElem hj
      have : j ∈ Region.ready .any ops listed := by
        refine mem_ready.2 ⟨?_, ops[j], ho, fun e he hb => ?_⟩
        · have hlt : j < listed.size := by omega
          unfold lsS at hc
          simp only [Array.getD_eq_getD_getElem?, Array.getElem?_eq_getElem hlt, Option.getD_some] at hc ⊢
          exact hc
        · obtain ⟨b, _, h2, _⟩ := orderly_spec hord ho
          have hlt := h2 e he hb
          exact ih e.on hlt (by omega)
      rw [hr] at this
      cases this
variable (hX : XOk X n0 w0) (hu : UnitOk X n0 w0 rec) (hord : orderly ops = true) (hg : ∀ i, i < m → (oneC X rec N ops i (cn X rec N ops c i)).isSome = true) (hcf : ∀ i, i < m → ∀ b, (beforeL ops)[i]? = some b → ∀ i', i' < i → b.testBit i' = true ∨ meetz X rec N ops c i' i)
  (hc : c.2.rd = 0 ∧ c.2.wr = 0) (hB : (cn X rec N ops c m).2.next ≤ B) (hfree : ∀ h, c.2.next ≤ h → h < B → c.2.heap.get h = none)
include hX hu hord hg hcf hc hB hfree
theorem lin_run {ok : Bool} (hok : ok = true → m = ops.size) (hpan : ok = false → m < ops.size ∧ lastOk (beforeL ops) ops.size m = true) {fr0 : Frame} (hmd : fr0.mode = .run) {k : List Item} (cs : List Frame) :
    ∀ (fuel t : Nat) (listed : Array Bool) (φ : Map) (tm : Array Value) (w : World), listed.size = ops.size → listed.toList.count false ≤ fuel → Inv X rec N ops c m n0 w0 φ0 B (lsS listed) φ tm w →
      RegEnd X rec N ops c m n0 w0 φ0 B fr0 k cs (lone { fr0 with tmps := tm, todo := .inRegion ops (Region.linearise.go .any ops fuel t listed []) :: k } cs w) ok := by
  have fin : ∀ (listed : Array Bool) (φ : Map) (tm : Array Value) (w : World), Inv X rec N ops c m n0 w0 φ0 B (lsS listed) φ tm w → (∀ j, j < ops.size → lsS listed j = true) → RegEnd X rec N ops c m n0 w0 φ0 B fr0 k cs (lone { fr0 with tmps := tm, todo := .inRegion ops [] :: k } cs w) ok := by
    intro listed φ tm w hi hall
    cases ok with
    | true => exact ⟨φ, tm, w, lsS listed, .refl _ _, hi, fun i h => hall i (by have := hok rfl; omega)⟩
    | false =>
      have h1 := (hpan rfl).1
      have := hi.lt m (hall m h1)
      omega
  intro fuel
  induction fuel with
  | zero =>
    intro t listed φ tm w hs hct hi
    simp only [Region.linearise.go, List.reverse_nil]
    refine fin listed φ tm w hi fun j hj => ?_
    have hlt : j < listed.size := by omega
    have hm : false ∉ listed.toList := by
      intro h
      have := List.count_pos_iff.2 h
      omega
    unfold lsS
    simp only [Array.getD_eq_getD_getElem?, Array.getElem?_eq_getElem hlt, Option.getD_some]
    cases hx : listed[j] with
    | true => rfl
    | false => exact absurd (by rw [← hx]; simp) hm
  | succ fuel ih =>
    intro t listed φ tm w hs hct hi
    simp only [Region.linearise.go]
    change RegEnd X rec N ops c m n0 w0 φ0 B fr0 k cs (lone { fr0 with tmps := tm, todo := .inRegion ops (match (Region.ready .any ops listed)[t % (Region.ready .any ops listed).length]? with
      | some i => Region.linearise.go .any ops fuel (t / (Region.ready .any ops listed).length) (listed.setIfInBounds i true) [i]
      | none => [].reverse) :: k } cs w) ok
    cases hx : (Region.ready .any ops listed)[t % (Region.ready .any ops listed).length]? with
    | none =>
      have hnil : Region.ready .any ops listed = [] := by
        cases hr : Region.ready .any ops listed with
        | nil => rfl
        | cons x xs =>
          rw [hr] at hx
          have hlt : t % (x :: xs).length < (x :: xs).length := Nat.mod_lt _ (by simp)
          simp at hx
          simp at hlt
          omega
      exact fin listed φ tm w hi (all_listed rfl hord hs hnil)
    | some i =>
      simp only []
      rw [linearise_go_acc, List.reverse_singleton, List.singleton_append]
      obtain ⟨h1, o, ho, hdep⟩ := mem_ready.1 (List.mem_of_getElem? hx)
      have hlt : i < listed.size := by rw [hs]; exact (Array.getElem?_eq_some_iff.1 ho).1
      have hSi : lsS listed i = false := by
        unfold lsS
        simp only [Array.getD_eq_getD_getElem?, Array.getElem?_eq_getElem hlt, Option.getD_some] at h1 ⊢
        simpa using h1
      have hsz : i < ops.size := by omega
      have step : i < m → RegEnd X rec N ops c m n0 w0 φ0 B fr0 k cs (lone { fr0 with tmps := tm, todo := .inRegion ops (i :: Region.linearise.go .any ops fuel (t / (Region.ready .any ops listed).length) (listed.setIfInBounds i true) []) :: k } cs w) ok := by
        intro him
        obtain ⟨ψ, tm', w', q1, q2⟩ := inv_step hX hu hord hg hcf hc hB hfree hi him ho hSi hdep hmd (rest := Region.linearise.go .any ops fuel (t / (Region.ready .any ops listed).length) (listed.setIfInBounds i true) []) (k := k) cs
        have hf : listed.toList[i]'(by simpa using hlt) = false := by
          unfold lsS at hSi
          simp only [Array.getD_eq_getD_getElem?, Array.getElem?_eq_getElem hlt, Option.getD_some] at hSi
          simpa using hSi
        have hct' : (listed.setIfInBounds i true).toList.count false ≤ fuel := by
          rw [Array.toList_setIfInBounds, List.count_set (by simpa using hlt)]
          have hpos : 0 < listed.toList.count false := List.count_pos_iff.2 (by rw [← hf]; exact List.getElem_mem _)
          rw [hf]
          generalize listed.toList.count false = mm at *
          have e1 : (if (false == false) = true then 1 else 0) = 1 := rfl
          have e2 : (if (true == false) = true then 1 else 0) = 0 := rfl
          rw [e1, e2]
          omega
        have := ih (t / (Region.ready .any ops listed).length) (listed.setIfInBounds i true) ψ tm' w' (by simpa using hs) hct' (by rw [lsS_set hlt]; exact q2)
        cases ok with
        | true => obtain ⟨a1, a2, a3, a4, a5, a6⟩ := this; exact ⟨a1, a2, a3, a4, q1.trans a5, a6⟩
        | false => obtain ⟨a1, a2, a3, a4, a5, a6, a7⟩ := this; exact ⟨a1, a2, a3, a4, a5, q1.trans a6, a7⟩
      by_cases him : i < m
      · exact step him
      · cases ok with
        | true => have := hok rfl; omega
        | false =>
          obtain ⟨hm, hl⟩ := hpan rfl
          unfold lastOk at hl
          obtain ⟨b0, hb0, _, _⟩ := orderly_spec hord (Array.getElem?_eq_getElem hm)
          rw [hb0] at hl
          dsimp only at hl
          rw [Bool.and_eq_true] at hl
          by_cases e : i = m
          · subst e
            refine ⟨φ, tm, w, lsS listed, _, .refl _ _, hi, fun j hj => ?_⟩
            exact (beforeL_closed hi.closed hb0).2 o ho hdep j (forB_spec hl.1 j hj)
          · exfalso
            have h2 := forB_spec hl.2 i hsz
            obtain ⟨b, hb, _, _⟩ := orderly_spec hord ho
            rw [hb] at h2
            have : b.testBit m = true := by
              rw [Bool.or_eq_true] at h2
              rcases h2 with h2 | h2
              · have := Nat.le_of_ble_eq_true h2; omega
              · exact h2
            have hSm := (beforeL_closed hi.closed hb).2 o ho hdep m this
            have := hi.lt m hSm
            omega
end
section
variable {X : Ctx} {n0 : Nat} {w0 : World} {rec : AF → Fr Fin} {lm : Nat} {φ : Map} {s s' : HS} {w : World}
theorem wf_after {α : Type} {m : Fr α} {a : α} (hr : m.run s = some (a, s')) (h : ∀ j, s.next ≤ j → j < lm → s.heap.get j = none) : ∀ j, s'.next ≤ j → j < lm → s'.heap.get j = none := by
  intro j hj hl
  obtain ⟨l1, r, w, p1, q1, f1, n1, _⟩ := m.ok _ _ _ hr
  have h0 := h j (by omega) hl
  cases hw : w.testBit j with
  | false => rw [f1 j (.inr hj) hw]; exact h0
  | true => exact absurd h0 (n1 j (.inr hj) hw)
theorem FRel.get {N : Nat} {T U : Temps} {a : Act} (h : FRel N φ T a) (e : ∀ t, U.get t = T.get t) : FRel N φ U a := ⟨h.size, fun t v hv => h.at_ t v (by rw [← e]; exact hv)⟩
/-- A region that draws its order. -/
theorem regA_sound (hX : XOk X n0 w0) (hu : UnitOk X n0 w0 rec) (hmix : X.P.follows .mixedOrders = true) {N : Nat} {T : Temps} {ops : Array Oper} {fr : Frame} (hf : FRel N φ T ⟨fr.tmps, []⟩) (hord : orderly ops = true) {rr : RR} (hr : (regA X rec ops (beforeL ops) ops.size N ops.toList 0 [] T).run s = some (rr, s'))
    (h : Rel n0 w0 lm φ s w) (hm : s'.next ≤ lm) (hmd : fr.mode = .run) {id : Nat} {k : List Item} (ht : fr.todo = .code (.region id ops true) :: k) (cs : List Frame) :
    ∃ ψ w' tm, Ext s.next s'.next φ ψ ∧ Rel n0 w0 lm ψ s' w' ∧ (match rr with
      | .ok T' => FRel N ψ T' ⟨tm, []⟩ ∧ Steps X.P (lone fr cs w) (lone { fr with tmps := tm, todo := k } cs w')
      | .pan T' ch => FRel N ψ T' ⟨tm, []⟩ ∧ ∃ kk td, CR ψ ch kk ∧ Steps X.P (lone fr cs w) (lone (Frame.raise { fr with tmps := tm, todo := td } kk) cs w')) := by
  obtain ⟨m, _, hmn, hgood, hend⟩ := regA_trace (X := X) (rec := rec) (N := N) (n := ops.size) (ops := ops) (bs := beforeL ops) (T, nrm s) rfl ops.toList 0 [] T s s' rr hr (by simp) (Nat.zero_le _) rfl (fun i hi => by omega)
  have hg : ∀ i, i < m → (oneC X rec N ops i (cn X rec N ops (T, nrm s) i)).isSome = true := fun i hi => (hgood i (Nat.zero_le _) hi).1
  have hcf : ∀ i, i < m → ∀ b, (beforeL ops)[i]? = some b → ∀ i', i' < i → b.testBit i' = true ∨ meetz X rec N ops (T, nrm s) i' i := fun i hi => (hgood i (Nat.zero_le _) hi).2
  have hc : (T, nrm s).2.rd = 0 ∧ (T, nrm s).2.wr = 0 := ⟨rfl, rfl⟩
  have hB : (cn X rec N ops (T, nrm s) m).2.next ≤ s'.next := by
    cases rr with
    | ok T' =>
      obtain ⟨_, _, h3⟩ := hend
      rw [← h3]; exact Nat.le_refl _
    | pan T' ch =>
      obtain ⟨_, _, _, o, s1, _, _, h5, h6⟩ := hend
      have hn : s'.next = s1.next := (show (nrm s').next = (nrm s1).next by rw [h6])
      rw [hn]
      exact ((opA X rec (cn X rec N ops (T, nrm s) m).1 o).ok _ _ _ h5).le
  have hfree : ∀ j, (T, nrm s).2.next ≤ j → j < s'.next → (T, nrm s).2.heap.get j = none := fun j a b => h.wf j a (by omega)
  have hst := st_draw (P := X.P) (cs := cs) (w := w) hmd ht
  have hsch : Region.schedule (X.P.follows .mixedOrders) ops (w.tape w.drawn (.order fr.fn id)) = Region.linearise.go .any ops ops.size (w.tape w.drawn (.order fr.fn id)) (Array.replicate ops.size false) [] := by
    simp only [Region.schedule, hmix, Bool.true_or, if_true]
    rfl
  rw [hsch] at hst
  have hS0 : ∀ i, lsS (Array.replicate ops.size false) i = false := fun i => getD_rep _ _
  have hinv : Inv X rec N ops (T, nrm s) m n0 w0 φ s'.next (lsS (Array.replicate ops.size false)) φ fr.tmps w.drew := by
    refine ⟨fun j o _ hj => (by rw [hS0] at hj; cases hj), fun i hi => (by rw [hS0] at hi; cases hi), ⟨T, fun t => ?_, hf⟩, ⟨s.heap, fun j => ?_, h.drew.re (fun _ => rfl) (fun _ _ a => by omega)⟩, Map.le_refl _, fun _ _ => rfl⟩
    · rw [lastv_stay (j := 0) (Nat.zero_le _) (fun i _ _ _ => hS0 i)]; rfl
    · rw [lastv_stay (j := 0) (Nat.zero_le _) (fun i _ _ _ => hS0 i)]; rfl
  have hcount : (Array.replicate ops.size false).toList.count false ≤ ops.size := by simp
  have hallT : ∀ {S : Nat → Bool}, (∀ i, i < m → S i = true) → ∀ t, lastv (sgT X rec N ops (T, nrm s)) (WrT ops) S m t = (cn X rec N ops (T, nrm s) m).1.get t := fun hS t => lastv_all (fun i hi t => sgT_frame hg i hi t) hS t
  have hallH : ∀ {S : Nat → Bool}, (∀ i, i < m → S i = true) → ∀ j, lastv (sgH X rec N ops (T, nrm s)) (WrH X rec N ops (T, nrm s)) S m j = (cn X rec N ops (T, nrm s) m).2.heap.get j := fun hS t => lastv_all (fun i hi t => sgH_frame hg i hi t) hS t
  have hwf := wf_after hr h.wf
  cases rr with
  | ok T' =>
    obtain ⟨h1, h2, h3⟩ := hend
    have hl := lin_run (ok := true) hX hu hord hg hcf hc hB hfree (fun _ => h1) (fun e => by cases e) hmd (k := k) cs ops.size (w.tape w.drawn (.order fr.fn id)) (Array.replicate ops.size false) φ fr.tmps w.drew (by simp) hcount hinv
    obtain ⟨ψ, tm, w', S, e1, e2, e3⟩ := hl
    obtain ⟨TT, f1, f2⟩ := e2.TS
    obtain ⟨tr, f3, f4⟩ := e2.HS
    have hheap : ∀ j, s'.heap.get j = tr.get j := fun j => by
      rw [f3 j, hallH e3 j, ← h3]; rfl
    refine ⟨ψ, w', tm, ⟨e2.le, fun j hj => e2.out j hj⟩, f4.re (s' := s') hheap (fun j a b => by show tr.get j = none; rw [← hheap]; exact hwf j a b), f2.get fun t => ?_, ?_⟩
    · rw [f1 t, hallT e3 t, h2]
    · refine .head hst (e1.trans (.one (st_to (k := k) hmd rfl ?_)))
      exact .inr (.inr (.inr (.inr (.inr (.inr (.inr (.inr (.inr (.inr (.inl ⟨ops, rfl, rfl⟩))))))))))
  | pan T' ch =>
    obtain ⟨h1, h2, h3, o, s1, ho, hwn, hop, h6⟩ := hend
    have hl := lin_run (ok := false) hX hu hord hg hcf hc hB hfree (fun e => by cases e) (fun _ => ⟨h1, h2⟩) hmd (k := k) cs ops.size (w.tape w.drawn (.order fr.fn id)) (Array.replicate ops.size false) φ fr.tmps w.drew (by simp) hcount hinv
    obtain ⟨ψ, tm, w1, S, rest, e1, e2, e3⟩ := hl
    obtain ⟨TT, f1, f2⟩ := e2.TS
    obtain ⟨tr, f3, f4⟩ := e2.HS
    have hTT : ∀ t, TT.get t = (cn X rec N ops (T, nrm s) m).1.get t := fun t => by rw [f1 t, hallT e3 t]
    have htr : ∀ j, tr.get j = (cn X rec N ops (T, nrm s) m).2.heap.get j := fun j => by rw [f3 j, hallH e3 j]
    have hn : s'.next = s1.next := (show (nrm s').next = (nrm s1).next by rw [h6])
    have hfa := free_at hg hc hB hfree m (Nat.le_refl _)
    obtain ⟨l1, r, wr, p1, q1, g1, n1, d1⟩ := (opA X rec (cn X rec N ops (T, nrm s) m).1 o).ok _ _ _ hop
    obtain ⟨t', k1, k2, k3, k4, k5⟩ := d1 (fun j a b => hfa j a (by omega)) ⟨tr, (cn X rec N ops (T, nrm s) m).2.next, 0, 0⟩ rfl (fun j _ _ => htr j) (fun j a b => by
      show tr.get j = none
      rw [htr]; exact hfa j a (by omega))
    have hopc : opA X rec TT o = opA X rec (cn X rec N ops (T, nrm s) m).1 o := opA_congr fun x hx => by
      cases x with
      | tmp t => exact hTT t
      | _ => rfl
    have hwa : wantedA ops TT o = some true := by rw [← hwn]; exact yieldedA_congr fun t _ => hTT t
    have hw := wantedA_sound f2 hwa
    have hRt : Rel n0 w0 s1.next ψ ⟨tr, (cn X rec N ops (T, nrm s) m).2.next, 0, 0⟩ w1 := f4.re (fun _ => rfl) (fun j a b => by
      show tr.get j = none
      rw [htr]; exact hfa j a (by omega))
    obtain ⟨χ, w', a1, a2, kk, a3, a4⟩ := opA_sound (fr := { fr with tmps := tm, todo := .inRegion ops (m :: rest) :: k }) hX hu hRt f2 hmd rfl ho hw (by rw [hopc]; exact k1) (by rw [k2]; exact Nat.le_refl _) cs
    rw [k2] at a1
    have hst' : ∀ j, s'.heap.get j = t'.heap.get j := fun j => by
      have e : s'.heap.get j = s1.heap.get j := by
        show (nrm s').heap.get j = _
        rw [h6]; rfl
      rw [e, k5 j]
      split
      · rfl
      · next hcc =>
        show s1.heap.get j = tr.get j
        rw [htr]
        have hout : j < (cn X rec N ops (T, nrm s) m).2.next ∨ s1.next ≤ j := by
          by_cases c : (cn X rec N ops (T, nrm s) m).2.next ≤ j ∧ j < s1.next
          · exact absurd (.inr c) hcc
          · omega
        refine g1 j hout ?_
        cases hb : wr.testBit j with
        | false => rfl
        | true => exact absurd (.inl ⟨hout, hb⟩) hcc
    refine ⟨χ, w', tm, ⟨Map.le_trans e2.le a1.le, fun j hj => ?_⟩, a2.re hst' (fun j a b => by rw [← hst' j]; exact hwf j a b), (f2.mono a1.le).get fun t => ?_, kk, _, a3, .head hst (e1.trans a4)⟩
    · have hx := nx_mono hg m (Nat.le_refl _) 0 (Nat.zero_le _)
      rw [← e2.out j hj]
      refine a1.out j ?_
      show j < (cn X rec N ops (T, nrm s) m).2.next ∨ s1.next ≤ j
      have hx' : s.next ≤ (cn X rec N ops (T, nrm s) m).2.next := hx
      omega
    · rw [h3, hTT t]
end
end
end Go.Proofs.YtifcganfcjildaaGreatDoor.E
