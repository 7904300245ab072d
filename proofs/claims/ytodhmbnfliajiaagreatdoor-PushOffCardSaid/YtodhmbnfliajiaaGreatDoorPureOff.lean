/- PureOff: a text of this claim's proof, as printed or written, without what the claim does not use. -/
import Derived.Test.YtodhmbnfliajiaaGreatDoorJ15
import Derived.Test.YtodhmbnfliajiaaGreatDoorJ14
import Derived.Test.YtodhmbnfliajiaaGreatDoorQx0
namespace Go.Proofs.YtodhmbnfliajiaaGreatDoor.Q
open Go.RowKit Go.Proofs.YtodhmbnfliajiaaGreatDoorW.PrintWords Go.Proofs.YtodhmbnfliajiaaGreatDoorW.PrintLast Go.Proofs.YtodhmbnfliajiaaGreatDoorW.PrintMore
set_option linter.unusedVariables false
def insAt {α : Type} (l : List α) (i : Nat) (y : α) : List α := (l.take i ++ [y]) ++ l.drop i
theorem insAt_length {α : Type} (l : List α) (i : Nat) (y : α) (hi : i ≤ l.length) : (insAt l i y).length = l.length + 1 := by
  unfold insAt; simp; omega
theorem insAt_lt {α : Type} (l : List α) (i : Nat) (y : α) (hi : i ≤ l.length) (k : Nat) (h : k < i) : (insAt l i y)[k]? = l[k]? := by
  unfold insAt
  rw [List.append_assoc, List.getElem?_append_left (by rw [List.length_take]; omega), List.getElem?_take, if_pos h]
theorem insAt_eq {α : Type} (l : List α) (i : Nat) (y : α) (hi : i ≤ l.length) : (insAt l i y)[i]? = some y := by
  unfold insAt
  have h : (l.take i).length = i := by rw [List.length_take]; omega
  rw [List.append_assoc, List.getElem?_append_right (by omega), h, Nat.sub_self]; rfl
theorem insAt_gt {α : Type} (l : List α) (i : Nat) (y : α) (hi : i ≤ l.length) (k : Nat) (h : i ≤ k) : (insAt l i y)[k + 1]? = l[k]? := by
  unfold insAt
  have h' : (l.take i ++ [y]).length = i + 1 := by rw [List.length_append, List.length_take, List.length_singleton]; omega
  rw [List.getElem?_append_right (by omega), h', List.getElem?_drop]
  congr 1; omega
theorem insAt_rel {α β : Type} {K : α → β → Prop} (l : List α) (rs : List β) (hl : rs.length = l.length) (i : Nat) (hi : i ≤ l.length) (y : α) (s : β) (hy : K y s) (h : ∀ (j : Nat) x r, l[j]? = some x → rs[j]? = some r → K x r) :
    ∀ (j : Nat) x r, (insAt l i y)[j]? = some x → (insAt rs i s)[j]? = some r → K x r := by
  intro j x r hx hr
  rcases Nat.lt_trichotomy j i with hj | hj | hj
  · rw [insAt_lt l i y hi j hj] at hx; rw [insAt_lt rs i s (by omega) j hj] at hr
    exact h j x r hx hr
  · subst hj
    rw [insAt_eq l j y hi] at hx; rw [insAt_eq rs j s (by omega)] at hr
    cases hx; cases hr; exact hy
  · obtain ⟨k, rfl⟩ : ∃ k, j = k + 1 := ⟨j - 1, by omega⟩
    rw [insAt_gt l i y hi k (by omega)] at hx; rw [insAt_gt rs i s (by omega) k (by omega)] at hr
    exact h k x r hx hr
theorem insAt_mem {α : Type} {l : List α} {i : Nat} {y r : α} (h : r ∈ insAt l i y) : r = y ∨ r ∈ l := by
  unfold insAt at h
  rw [List.mem_append, List.mem_append, List.mem_singleton] at h
  rcases h with (h | h) | h
  · exact .inr (List.mem_of_mem_take h)
  · exact .inl h
  · exact .inr (List.mem_of_mem_drop h)
theorem rd_get (l : List RL) (k : Nat) : rd_T47 l (k : Int) = l[k]?.getD (rd_T47 [] 0) := by
  unfold rd_T47
  simp
theorem tell_off (l : List RL) (y : RL) (hy : y.f2 = true) (i : Nat) (hi : i ≤ l.length) (x : EvV) (user name : ByteArray) (mem lev : Int) : tellB (insAt l i y) x user name mem lev = tellB l x user name mem lev := by
  have hlen := insAt_length l i y hi
  have r1 : ∀ k, k < i → rd_T47 (insAt l i y) (k : Int) = rd_T47 l (k : Int) := fun k h => by rw [rd_get, rd_get, insAt_lt l i y hi k h]
  have r2 : ∀ k, i ≤ k → rd_T47 (insAt l i y) ((k + 1 : Nat) : Int) = rd_T47 l (k : Int) := fun k h => by rw [rd_get, rd_get, insAt_gt l i y hi k h]
  have r3 : rd_T47 (insAt l i y) (i : Int) = y := by rw [rd_get, insAt_eq l i y hi]; rfl
  have o1 : ∀ k, k < i → okAt (insAt l i y) x name mem lev k = okAt l x name mem lev k ∧ clsOf (insAt l i y) k = clsOf l k := fun k h => by unfold okAt clsOf; rw [r1 k h]; exact ⟨rfl, rfl⟩
  have o2 : ∀ k, i ≤ k → okAt (insAt l i y) x name mem lev (k + 1) = okAt l x name mem lev k ∧ clsOf (insAt l i y) (k + 1) = clsOf l k := fun k h => by unfold okAt clsOf; rw [r2 k h]; exact ⟨rfl, rfl⟩
  have o3 : okAt (insAt l i y) x name mem lev i = false := by unfold okAt; rw [r3]; unfold ruleOk; rw [hy]; rfl
  have hs := best_spec (clsOf l) (okAt l x name mem lev) l.length
  have hm := best_spec (clsOf (insAt l i y)) (okAt (insAt l i y) x name mem lev) (insAt l i y).length
  by_cases h0 : x.sender.toList = user.toList
  · unfold tellB findB
    rw [if_pos h0, if_pos h0]; rfl
  cases hb : bestIdx (clsOf l) (okAt l x name mem lev) l.length with
  | none =>
    rw [hb] at hs
    have hb2 : bestIdx (clsOf (insAt l i y)) (okAt (insAt l i y) x name mem lev) (insAt l i y).length = none := by
      refine best_unique hm (fun k hk => ?_)
      rcases Nat.lt_trichotomy k i with h | h | h
      · rw [(o1 k h).1]; exact hs k (by omega)
      · rw [h]; exact o3
      · obtain ⟨m, rfl⟩ : ∃ m, k = m + 1 := ⟨k - 1, by omega⟩
        rw [(o2 m (by omega)).1]; exact hs m (by omega)
    unfold tellB findB
    rw [if_neg h0, if_neg h0, hb, hb2]; rfl
  | some b =>
    rw [hb] at hs
    obtain ⟨s1, s2, s3⟩ := hs
    obtain ⟨p, hp, hp1, hp2⟩ : ∃ p : Nat, (p = if b < i then b else b + 1) ∧ okAt (insAt l i y) x name mem lev p = okAt l x name mem lev b ∧ clsOf (insAt l i y) p = clsOf l b := by
      by_cases h : b < i
      · exact ⟨b, (if_pos h).symm, o1 b h⟩
      · exact ⟨b + 1, (if_neg h).symm, o2 b (by omega)⟩
    have hpr : rd_T47 (insAt l i y) (p : Int) = rd_T47 l (b : Int) := by
      rw [hp]
      by_cases h : b < i
      · rw [if_pos h]; exact r1 b h
      · rw [if_neg h]; exact r2 b (by omega)
    have hb2 : bestIdx (clsOf (insAt l i y)) (okAt (insAt l i y) x name mem lev) (insAt l i y).length = some p := by
      refine best_unique hm ⟨hp1.trans s1, by rw [hp, hlen]; split <;> omega, fun k hk ho => ?_⟩
      rcases Nat.lt_trichotomy k i with h | h | h
      · rw [(o1 k h).1] at ho
        rcases s3 k (by omega) ho with e | e
        · left; rw [hp, e, if_pos h]
        · right; unfold Lex at e ⊢; rw [hp2, (o1 k h).2, hp]; split <;> omega
      · rw [h, o3] at ho; cases ho
      · obtain ⟨m, rfl⟩ : ∃ m, k = m + 1 := ⟨k - 1, by omega⟩
        rw [(o2 m (by omega)).1] at ho
        rcases s3 m (by omega) ho with e | e
        · left; rw [hp, e, if_neg (by omega)]
        · right; unfold Lex at e ⊢; rw [hp2, (o2 m (by omega)).2, hp]; split <;> omega
    unfold tellB findB
    rw [if_neg h0, if_neg h0, hb, hb2]
    simp only [if_true, hpr]
def offRule (r : RL) : RL := ⟨r.f0, r.f1, true, r.f3, r.f4, r.f5⟩
theorem rulesSmall_off {l : List RL} {r : RL} {x : EvV} {name : ByteArray} (f : FewIs l x name) (g : FewIs [r] x name) (i : Nat) (hi : i ≤ l.length) : rulesSmall (insAt l i (offRule r)) = true := by
  have hl := f.len
  have hr := g.rules r (List.mem_singleton.2 rfl)
  unfold Q.rulesSmall
  rw [Bool.and_eq_true, decide_eq_true_eq, List.all_eq_true]
  refine ⟨by rw [insAt_length l i _ hi]; omega, fun q hq => ?_⟩
  rw [Bool.and_eq_true, decide_eq_true_eq, List.all_eq_true]
  have h : RuleFits q := by
    rcases insAt_mem hq with rfl | hq
    · exact hr
    · exact f.rules q hq
  exact ⟨by have := h.1; omega, fun c hc => decide_eq_true (by have := h.2 c hc; omega)⟩
end Go.Proofs.YtodhmbnfliajiaaGreatDoor.Q
