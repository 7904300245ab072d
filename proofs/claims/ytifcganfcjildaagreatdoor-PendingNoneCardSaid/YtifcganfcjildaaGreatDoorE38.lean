/- A region's run, told step by step. -/
import Derived.Test.YtifcganfcjildaaGreatDoorE37
namespace Go.Proofs.YtifcganfcjildaaGreatDoor.E
open Go Go.RowKit
set_option linter.unusedVariables false
set_option linter.unusedSimpArgs false
set_option linter.unnecessarySimpa false
noncomputable section

def nrm (s : HS) : HS := ⟨s.heap, s.next, 0, 0⟩
section
variable (X : Ctx) (rec : AF → Fr Fin) (N : Nat) (ops : Array Oper)
def oneC (j : Nat) (c : Temps × HS) : Option (Temps × HS × Nat × Nat) := match ops[j]? with
  | none => none
  | some o => match wantedA ops c.1 o with
    | none => none
    | some false => match putT N c.1 o.dst .nop with
      | none => none
      | some T' => some (T', c.2, 0, 0)
    | some true => match (opA X rec c.1 o).run c.2 with
      | some (.val v, s1) => match putT N c.1 o.dst v with
        | none => none
        | some T' => some (T', nrm s1, s1.rd, s1.wr ||| blockMask c.2.next s1.next)
      | _ => none
def cn (c : Temps × HS) : Nat → Temps × HS
  | 0 => c
  | j + 1 => match oneC X rec N ops j (cn c j) with
    | some (T', s', _, _) => (T', s')
    | none => cn c j
def rm (c : Temps × HS) (j : Nat) : Nat := match oneC X rec N ops j (cn X rec N ops c j) with
  | some (_, _, r, _) => r
  | none => 0
def wm (c : Temps × HS) (j : Nat) : Nat := match oneC X rec N ops j (cn X rec N ops c j) with
  | some (_, _, _, w) => w
  | none => 0
def meetz (c : Temps × HS) (i j : Nat) : Prop := (wm X rec N ops c i &&& (rm X rec N ops c j ||| wm X rec N ops c j)) ||| (rm X rec N ops c i &&& wm X rec N ops c j) = 0
end
variable {X : Ctx} {rec : AF → Fr Fin} {N n : Nat} {ops : Array Oper} {bs : List Nat}
theorem apartL_spec {b r w : Nat} : ∀ {l : List (Nat × Nat × Nat)}, apartL b r w l = true → ∀ i r' w', (i, r', w') ∈ l → b.testBit i = true ∨ (w' &&& (r ||| w)) ||| (r' &&& w) = 0
  | [], _, _, _, _, h => by cases h
  | (i, r', w') :: l, h, i1, r1, w1, hm => by
    unfold apartL at h
    cases hc : (b.testBit i || Nat.beq ((w' &&& (r ||| w)) ||| (r' &&& w)) 0) with
    | false => rw [hc] at h; cases h
    | true =>
      rw [hc] at h
      rcases List.mem_cons.1 hm with e | hm
      · simp only [Prod.mk.injEq] at e
        obtain ⟨rfl, rfl, rfl⟩ := e
        rw [Bool.or_eq_true] at hc
        exact hc.imp id fun h => Nat.eq_of_beq_eq_true h
      · exact apartL_spec h i1 r1 w1 hm
/-- How a region's run ends. -/
def Ends (X : Ctx) (rec : AF → Fr Fin) (N n : Nat) (ops : Array Oper) (bs : List Nat) (c : Temps × HS) (m : Nat) (s' : HS) : RR → Prop
  | .ok T => m = n ∧ T = (cn X rec N ops c m).1 ∧ nrm s' = (cn X rec N ops c m).2
  | .pan T ch => m < n ∧ lastOk bs n m = true ∧ T = (cn X rec N ops c m).1 ∧ ∃ o s1, ops[m]? = some o ∧ wantedA ops (cn X rec N ops c m).1 o = some true ∧ (opA X rec (cn X rec N ops c m).1 o).run (cn X rec N ops c m).2 = some (.pan ch, s1) ∧ nrm s' = nrm s1
theorem force_run {α : Type} {k : Nat} {f : Nat → Fr α} {s : HS} {p : α × HS} (h : (force k f).run s = some p) : (f k).run s = some p := by rwa [force_eq] at h
theorem regA_trace (c : Temps × HS) (hn : n = ops.size) : ∀ (l : List Oper) (j : Nat) (acc : List (Nat × Nat × Nat)) (T : Temps) (s s' : HS) (rr : RR), (regA X rec ops bs n N l j acc T).run s = some (rr, s') → l = ops.toList.drop j → j ≤ n → cn X rec N ops c j = (T, nrm s) →
    (∀ i, i < j → (rm X rec N ops c i = 0 ∧ wm X rec N ops c i = 0) ∨ (i, rm X rec N ops c i, wm X rec N ops c i) ∈ acc) → ∃ m, j ≤ m ∧ m ≤ n ∧ (∀ i, j ≤ i → i < m → (oneC X rec N ops i (cn X rec N ops c i)).isSome = true ∧ ∀ b, bs[i]? = some b → ∀ i', i' < i → b.testBit i' = true ∨ meetz X rec N ops c i' i) ∧
      Ends X rec N n ops bs c m s' rr := by
  intro l
  induction l with
  | nil =>
    intro j acc T s s' rr hr hl hle hc hacc
    obtain ⟨rfl, rfl⟩ := Fr.ret_run hr
    have hj : ops.size ≤ j := by
      have := congrArg List.length hl
      simp at this
      omega
    have e : j = n := by omega
    subst e
    exact ⟨j, Nat.le_refl _, Nat.le_refl _, fun i h1 h2 => by omega, rfl, by rw [hc], by rw [hc]⟩
  | cons o l ih =>
    intro j acc T s s' rr hr hl hle hc hacc
    have hjn : j < ops.size := by
      have := congrArg List.length hl
      simp at this
      omega
    have ho : ops[j]? = some o := by
      have : (ops.toList.drop j)[0]? = some o := by rw [← hl]; rfl
      simpa using this
    have hl' : l = ops.toList.drop (j + 1) := by
      have := congrArg List.tail hl
      simpa using this
    simp only [regA] at hr
    cases hw : wantedA ops T o with
    | none => rw [hw] at hr; cases hr
    | some b0 =>
      rw [hw] at hr
      cases b0 with
      | false =>
        dsimp only at hr
        cases hp : putT N T o.dst .nop with
        | none => rw [hp] at hr; cases hr
        | some T' =>
          rw [hp] at hr
          have hone : oneC X rec N ops j (cn X rec N ops c j) = some (T', nrm s, 0, 0) := by simp only [oneC, ho, hc, hw, hp]
          have hcn : cn X rec N ops c (j + 1) = (T', nrm s) := by simp only [cn, hone]
          have hrm : rm X rec N ops c j = 0 := by simp only [rm, hone]
          have hwm : wm X rec N ops c j = 0 := by simp only [wm, hone]
          obtain ⟨m, h1, h2, h3, h4⟩ := ih (j + 1) acc T' s s' rr hr hl' (by omega) hcn (fun i hi => by
            by_cases e : i = j
            · subst e; exact .inl ⟨hrm, hwm⟩
            · exact hacc i (by omega))
          refine ⟨m, by omega, h2, fun i a b => ?_, h4⟩
          by_cases e : i = j
          · subst e
            exact ⟨by rw [hone]; rfl, fun bb hb i' hi' => .inr (by unfold meetz; rw [hrm, hwm]; simp)⟩
          · exact h3 i (by omega) b
      | true =>
        dsimp only at hr
        obtain ⟨⟨res, r, w0, n0, n1⟩, s2, k1, k2⟩ := Fr.bind_run hr
        dsimp only at k2
        cases hb : bs[j]? with
        | none => rw [hb] at k2; cases k2
        | some b =>
          rw [hb] at k2
          dsimp only at k2
          have k3 := force_run k2
          obtain ⟨hap, k4⟩ := cond_run k3
          have hme : ∃ s1, (opA X rec T o).run (nrm s) = some (res, s1) ∧ r = s1.rd ∧ w0 = s1.wr ∧ n0 = s.next ∧ n1 = s1.next ∧ nrm s2 = nrm s1 := by
            have k1' : measR (opA X rec T o) s = some ((res, r, w0, n0, n1), s2) := k1
            unfold measR at k1'
            cases e : (opA X rec T o).run { s with rd := 0, wr := 0 } with
            | none => rw [e] at k1'; cases k1'
            | some p =>
              obtain ⟨a, s1⟩ := p
              rw [e] at k1'
              simp only [force_eq] at k1'
              obtain ⟨e1, rfl⟩ := Prod.mk.inj (Option.some.inj k1')
              simp only [Prod.mk.injEq] at e1
              obtain ⟨rfl, rfl, rfl, rfl, rfl⟩ := e1
              exact ⟨s1, e, rfl, rfl, rfl, rfl, rfl⟩
          obtain ⟨s1, g1, rfl, rfl, rfl, rfl, g2⟩ := hme
          cases res with
          | val v =>
            dsimp only at k4
            cases hp : putT N T o.dst v with
            | none => rw [hp] at k4; cases k4
            | some T' =>
              rw [hp] at k4
              dsimp only at k4
              have hone : oneC X rec N ops j (cn X rec N ops c j) = some (T', nrm s1, s1.rd, s1.wr ||| blockMask s.next s1.next) := by simp only [oneC, ho, hc, hw, g1, hp]; rfl
              have hcn : cn X rec N ops c (j + 1) = (T', nrm s2) := by simp only [cn, hone]; rw [g2]
              have hrm : rm X rec N ops c j = s1.rd := by simp only [rm, hone]
              have hwm : wm X rec N ops c j = s1.wr ||| blockMask s.next s1.next := by simp only [wm, hone]
              have hstep : (oneC X rec N ops j (cn X rec N ops c j)).isSome = true ∧ ∀ b, bs[j]? = some b → ∀ i', i' < j → b.testBit i' = true ∨ meetz X rec N ops c i' j := by
                refine ⟨by rw [hone]; rfl, fun bb hbb i' hi' => ?_⟩
                rw [hb] at hbb
                obtain rfl := Option.some.inj hbb
                unfold meetz
                rw [hrm, hwm]
                rcases hacc i' hi' with ⟨h1, h2⟩ | h1
                · exact .inr (by rw [h1, h2]; simp)
                · exact apartL_spec hap _ _ _ h1
              obtain ⟨m, h1, h2, h3, h4⟩ := ih (j + 1) _ T' s2 s' rr k4 hl' (by omega) hcn (fun i hi => by
                by_cases e : i = j
                · subst e
                  rw [hrm, hwm]
                  cases hz : Nat.beq (s1.rd ||| (s1.wr ||| blockMask s.next s1.next)) 0 with
                  | true =>
                    have := Nat.eq_of_beq_eq_true hz
                    exact .inl (Nat.or_eq_zero_iff.1 this)
                  | false => exact .inr (by simp [cd])
                · rcases hacc i (by omega) with h | h
                  · exact .inl h
                  · exact .inr (by cases hz : Nat.beq (s1.rd ||| (s1.wr ||| blockMask s.next s1.next)) 0 <;> simp [cd, h]))
              refine ⟨m, by omega, h2, fun i a b => ?_, h4⟩
              by_cases e : i = j
              · subst e; exact hstep
              · exact h3 i (by omega) b
          | pan ch =>
            dsimp only at k4
            obtain ⟨hlast, k5⟩ := cond_run k4
            obtain ⟨rfl, rfl⟩ := Fr.ret_run k5
            exact ⟨j, Nat.le_refl _, by omega, fun i a b => by omega, by omega, hlast, by rw [hc], o, s1, ho, by rw [hc]; exact hw, by rw [hc]; exact g1, g2⟩
/-! ### What comes ahead of what -/
theorem edgesM_bits (acc : List Nat) (S : Nat → Bool) (hacc : ∀ j b, acc[j]? = some b → S j = true → ∀ i, b.testBit i = true → S i = true) : ∀ (l : List Edge), (∀ e ∈ l, Region.binds .any e = true → S e.on = true) → ∀ i, (edgesM acc l).testBit i = true → S i = true
  | [], _, i, h => by simp [edgesM] at h
  | e :: l, hl, i, h => by
    unfold edgesM at h
    rw [Nat.testBit_or, Bool.or_eq_true] at h
    rcases h with h | h
    · cases hb : Region.binds .any e with
      | false => rw [hb] at h; simp [cd] at h
      | true =>
        rw [hb] at h
        have hS := hl e (by simp) hb
        simp only [cd, Nat.testBit_or, Bool.or_eq_true] at h
        rcases h with h | h
        · rw [Nat.testBit_two_pow, decide_eq_true_eq] at h; subst h; exact hS
        · rw [List.getD_eq_getElem?_getD] at h
          cases hg : acc[e.on]? with
          | none => rw [hg] at h; simp at h
          | some b => rw [hg] at h; exact hacc e.on b hg hS i h
    · exact edgesM_bits acc S hacc l (fun e he => hl e (by simp [he])) i h
/-- Is a set closed towards what comes ahead? -/
def Closed (ops : Array Oper) (S : Nat → Bool) : Prop := ∀ j o, ops[j]? = some o → S j = true → ∀ e ∈ o.after, Region.binds .any e = true → S e.on = true
theorem befs_closed {S : Nat → Bool} (hS : Closed ops S) : ∀ (l : List Oper) (acc : List Nat), l = ops.toList.drop acc.length →
    (∀ (j b : Nat), acc[j]? = some b → S j = true → ∀ i, b.testBit i = true → S i = true) →
    (∀ (j b : Nat) (o : Oper), acc[j]? = some b → ops[j]? = some o → (∀ e ∈ o.after, Region.binds .any e = true → S e.on = true) → ∀ i, b.testBit i = true → S i = true) →
    (∀ (j b : Nat), (befs l acc)[j]? = some b → S j = true → ∀ i, b.testBit i = true → S i = true) ∧ (∀ (j b : Nat) (o : Oper), (befs l acc)[j]? = some b → ops[j]? = some o → (∀ e ∈ o.after, Region.binds .any e = true → S e.on = true) → ∀ i, b.testBit i = true → S i = true)
  | [], acc, _, h, h2 => ⟨h, h2⟩
  | o :: l, acc, hl, h, h2 => by
    have hbf : befs (o :: l) acc = befs l (acc ++ [edgesM acc o.after.toList]) := by
      show force _ _ = _
      rw [force_eq]
    rw [hbf]
    have ho : ops[acc.length]? = some o := by
      have : (ops.toList.drop acc.length)[0]? = some o := by rw [← hl]; rfl
      simpa using this
    refine befs_closed hS l (acc ++ [edgesM acc o.after.toList]) ?_ ?_ ?_
    · have := congrArg List.tail hl
      simpa using this
    · intro j b hj hSj i hi
      by_cases c : j < acc.length
      · rw [List.getElem?_append_left c] at hj; exact h j b hj hSj i hi
      · rw [List.getElem?_append_right (by omega)] at hj
        have hj0 : j - acc.length = 0 := by
          have := (List.getElem?_eq_some_iff.1 hj).1
          simp at this; omega
        have hjl : j = acc.length := by omega
        subst hjl
        simp at hj
        subst hj
        exact edgesM_bits acc S h o.after.toList (fun e he => hS _ o ho hSj e (by simpa using he)) i hi
    · intro j b o' hj ho' he i hi
      by_cases c : j < acc.length
      · rw [List.getElem?_append_left c] at hj; exact h2 j b o' hj ho' he i hi
      · rw [List.getElem?_append_right (by omega)] at hj
        have hj0 : j - acc.length = 0 := by
          have := (List.getElem?_eq_some_iff.1 hj).1
          simp at this; omega
        have hjl : j = acc.length := by omega
        subst hjl
        simp at hj
        subst hj
        rw [ho] at ho'
        obtain rfl := Option.some.inj ho'
        exact edgesM_bits acc S h o.after.toList (fun e hh => he e (by simpa using hh)) i hi
theorem beforeL_closed {S : Nat → Bool} (hS : Closed ops S) {j b : Nat} (hb : (beforeL ops)[j]? = some b) : (S j = true → ∀ i, b.testBit i = true → S i = true) ∧ ∀ o, ops[j]? = some o → (∀ e ∈ o.after, Region.binds .any e = true → S e.on = true) → ∀ i, b.testBit i = true → S i = true := by
  have := befs_closed (ops := ops) hS ops.toList [] (by simp) (fun j b h => by simp at h) (fun j b o h => by simp at h)
  exact ⟨this.1 j b hb, fun o => this.2 j b o hb⟩
end
end Go.Proofs.YtifcganfcjildaaGreatDoor.E
