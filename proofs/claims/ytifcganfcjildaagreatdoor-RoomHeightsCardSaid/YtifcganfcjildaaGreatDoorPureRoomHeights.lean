/- The plain law of RoomHeights: Height is the greatest of what each number tells, in both programs, and bounds each number below the limit. -/
import Derived.OpenShut
import Derived.Test.YtifcganfcjildaaGreatDoorQx2
namespace Go.Proofs.YtifcganfcjildaaGreatDoor.Pure
open Go.RowKit Go.Proofs.YtifcganfcjildaaGreatDoor.Q Go.Proofs.YtifcganfcjildaaGreatDoorW.PrintWords Go.Proofs.YtifcganfcjildaaGreatDoorW.PrintLast Go.Proofs.YtifcganfcjildaaGreatDoorW.PrintMore
set_option linter.unusedVariables false

theorem wr (n : Int) (h0 : -9223372036854775808 ≤ n) (h1 : n < 9223372036854775808) : wrap64 n = n := by
  unfold wrap64; omega
theorem rd_nat (l : List Int) (i : Nat) (h : i < l.length) : rd l (i : Int) = l[i] := by
  unfold rd
  rw [Int.toNat_natCast, List.getD_eq_getElem?_getD, List.getElem?_eq_getElem h]
  rfl
theorem mx_l (a b : Int) : a ≤ mx a b := by unfold mx; split <;> omega
theorem mx_r (a b : Int) : b ≤ mx a b := by unfold mx; split <;> omega
theorem mx_le (a b c : Int) (h : a ≤ c) (k : b ≤ c) : mx a b ≤ c := by unfold mx; split <;> omega
/-- What one number tells. -/
def g1 (x : Int) : Int := if x ≥ 1099511627776 then 1099511627776 else x + 1
theorem g1_le (x : Int) : g1 x ≤ 1099511627776 := by unfold g1; split <;> omega
/-- The height. -/
def top (h : Int) (l : List Int) : Int := l.foldl (fun h x => mx h (g1 x)) h
theorem top_l : ∀ (l : List Int) (h : Int), h ≤ top h l
  | [], h => Int.le_refl h
  | x :: l, h => Int.le_trans (mx_l h (g1 x)) (top_l l _)
theorem top_mem : ∀ (l : List Int) (h x : Int), x ∈ l → g1 x ≤ top h l
  | y :: l, h, x, hx => by
    rcases List.mem_cons.mp hx with rfl | hx
    · exact Int.le_trans (mx_r h (g1 x)) (top_l l _)
    · exact top_mem l _ x hx
theorem top_le : ∀ (l : List Int) (h : Int), h ≤ 1099511627776 → top h l ≤ 1099511627776
  | [], h, k => k
  | x :: l, h, k => top_le l _ (mx_le _ _ _ k (g1_le x))
/-- What the greatest tells. -/
def gg (m : Int) : Int := if m ≥ 1099511627776 then 1099511627776 else mx 0 (m + 1)
theorem gg_mx (a x : Int) : mx (gg a) (g1 x) = gg (mx a x) := by
  unfold gg g1 mx
  repeat' split
  all_goals omega
theorem gg_g1 (a : Int) : mx 0 (g1 a) = gg a := by
  unfold gg g1 mx
  repeat' split
  all_goals omega
theorem top_gg : ∀ (t : List Int) (a : Int), top (gg a) t = gg (t.foldl mx a)
  | [], a => rfl
  | x :: t, a => by
    show top (mx (gg a) (g1 x)) t = gg (t.foldl mx (mx a x))
    rw [gg_mx]
    exact top_gg t _
theorem fold_le : ∀ (t : List Int) (a : Int), a < 9223372036854775808 → (∀ x ∈ t, x < 9223372036854775808) → t.foldl mx a < 9223372036854775808
  | [], a, h, _ => h
  | x :: t, a, h, k => fold_le t _ (by have := k x (List.mem_cons_self ..); unfold mx; split <;> omega) (fun y hy => k y (List.mem_cons_of_mem _ hy))
theorem fold_ge : ∀ (t : List Int) (a : Int), a ≤ t.foldl mx a
  | [], a => Int.le_refl a
  | x :: t, a => Int.le_trans (mx_l a x) (fold_ge t _)

theorem max_loop (l : List Int) (hl : l.length ≤ 1000) : ∀ (n i : Nat) (m : Int), i + n = l.length → slices_Max_int64_int64.l0 (n + 1) l m (i : Int) = some ((l.drop i).foldl mx m)
  | 0, i, m, hi => by
    rw [slices_Max_int64_int64.l0, if_neg (by omega), List.drop_of_length_le (by omega)]
    rfl
  | n + 1, i, m, hi => by
    have hlt : i < l.length := by omega
    have hw : wrap64 ((i : Int) + 1) = ((i + 1 : Nat) : Int) := by rw [wr _ (by omega) (by omega)]; rfl
    rw [slices_Max_int64_int64.l0, if_pos (by omega), if_pos (by omega), rd_nat l i hlt, hw, max_loop l hl n (i + 1) _ (by omega), List.drop_eq_getElem_cons hlt]
    rfl
theorem ref_loop (l : List Int) (hl : l.length ≤ 1000) (hb : ∀ x ∈ l, -9223372036854775808 ≤ x ∧ x ≤ 9223372036854775807) : ∀ (n i : Nat) (h : Int), i + n = l.length → h ≤ 1099511627776 → agoraref14_Height.l0 (n + 1) l h (i : Int) = some (top h (l.drop i))
  | 0, i, h, hi, hh => by
    rw [agoraref14_Height.l0, if_neg (by omega), List.drop_of_length_le (by omega)]
    rfl
  | n + 1, i, h, hi, hh => by
    have hlt : i < l.length := by omega
    have hw : wrap64 ((i : Int) + 1) = ((i + 1 : Nat) : Int) := by rw [wr _ (by omega) (by omega)]; rfl
    have hx := hb l[i] (List.getElem_mem hlt)
    have e : top h (l.drop i) = top (mx h (g1 l[i])) (l.drop (i + 1)) := by rw [List.drop_eq_getElem_cons hlt]; rfl
    rw [e, agoraref14_Height.l0, if_pos (by omega), if_pos (by omega), rd_nat l i hlt, hw]
    by_cases c : l[i] ≥ 1099511627776
    · have e2 : mx h (g1 l[i]) = 1099511627776 := by unfold g1; rw [if_pos c]; unfold mx; split <;> omega
      rw [if_pos c, e2]
      exact ref_loop l hl hb n (i + 1) _ (by omega) (Int.le_refl _)
    · have e3 : wrap64 (l[i] + 1) = g1 l[i] := by unfold g1; rw [if_neg c, wr _ (by omega) (by omega)]
      have k := ref_loop l hl hb n (i + 1) (mx h (g1 l[i])) (by omega) (mx_le _ _ _ hh (g1_le _))
      rw [if_neg c, e3]
      by_cases d : g1 l[i] > h
      · rw [if_pos d]; exact k
      · rw [if_neg d]
        have e4 : mx h (g1 l[i]) = h := by unfold mx; rw [if_neg (by omega)]
        rw [e4] at k ⊢
        rw [k, ite_self]
theorem law_loop (l : List Int) (hl : l.length ≤ 1000) (h : Int) (hm : ∀ x ∈ l, x < 1099511627776 → x < h) : ∀ (n i : Nat), i + n = l.length → agoralaw14_RoomHeights.l0 (n + 1) l h (i : Int) = some true
  | 0, i, hi => by
    rw [agoralaw14_RoomHeights.l0, if_neg (by omega)]
    rfl
  | n + 1, i, hi => by
    have hlt : i < l.length := by omega
    have hw : wrap64 ((i : Int) + 1) = ((i + 1 : Nat) : Int) := by rw [wr _ (by omega) (by omega)]; rfl
    have hx := hm l[i] (List.getElem_mem hlt)
    have k := law_loop l hl h hm n (i + 1) (by omega)
    rw [agoralaw14_RoomHeights.l0, if_pos (by omega), if_pos (by omega), rd_nat l i hlt, hw, k]
    by_cases c : l[i] < 1099511627776
    · rw [if_pos c, if_neg (by have := hx c; omega)]
    · rw [if_neg c]
theorem max_f (l : List Int) (hl : l.length ≤ 1000) (x : Int) (t : List Int) (e : l = x :: t) (k : Nat) (hk : l.length ≤ k) : slices_Max_int64_int64.f k l = some (t.foldl mx x) := by
  refine at_rounds (g := fun k => slices_Max_int64_int64.f k l) (fun k => slices_Max_int64_int64.mono l k) hk ?_
  subst e
  show slices_Max_int64_int64.f _ _ = _
  unfold slices_Max_int64_int64.f
  rw [if_pos (by simp only [List.length_cons]; omega)]
  have h := max_loop (x :: t) hl t.length 1 x (by simp only [List.length_cons]; omega)
  exact h
theorem room_f (l : List Int) (hl : l.length ≤ 1000) (hb : ∀ x ∈ l, -9223372036854775808 ≤ x ∧ x ≤ 9223372036854775807) (k : Nat) (hk : l.length ≤ k) : room_Height.f k l = some (top 0 l) := by
  unfold room_Height.f
  cases hl0 : l with
  | nil => rfl
  | cons x t =>
    rw [← hl0, max_f l hl x t hl0 k hk, if_neg (by rw [hl0]; simp only [List.length_cons]; omega)]
    have hx := hb x (by rw [hl0]; exact List.mem_cons_self ..)
    have hge := fold_ge t x
    have e : top 0 l = gg (t.foldl mx x) := by
      rw [hl0, ← top_gg, ← gg_g1]; rfl
    rw [e]
    show (if t.foldl mx x ≥ 1099511627776 then some 1099511627776 else some (mx 0 (wrap64 (t.foldl mx x + 1)))) = some (gg (t.foldl mx x))
    unfold gg
    by_cases c : t.foldl mx x ≥ 1099511627776
    · rw [if_pos c, if_pos c]
    · rw [if_neg c, if_neg c, wr _ (by omega) (by omega)]
/-- The plain law. -/
theorem RoomHeights (l : List Int) (hwf : ∀ x ∈ l, (Lit.int .i64 x).wf = true) : ∃ k, agoralaw14_RoomHeights.f k l = some true := by
  have hb : ∀ x ∈ l, -9223372036854775808 ≤ x ∧ x ≤ 9223372036854775807 := fun x hx => bounds_i64 (hwf x hx)
  by_cases c : (l.length : Int) > 100
  · exact ⟨0, by unfold agoralaw14_RoomHeights.f; rw [if_pos c]⟩
  · have hl : l.length ≤ 1000 := by omega
    have h0 : 0 ≤ top 0 l := top_l l 0
    have h1 : top 0 l ≤ 1099511627776 := top_le l 0 (by omega)
    refine ⟨l.length + 2, ?_⟩
    have e1 := room_f l hl hb (l.length + 2) (by omega)
    have e2 : agoraref14_Height.f (l.length + 2) l = some (top 0 l) := by
      refine at_rounds (g := fun k => agoraref14_Height.f k l) (fun k => agoraref14_Height.mono l k) (Nat.le_succ (l.length + 1)) ?_
      exact ref_loop l hl hb l.length 0 0 (by omega) (by omega)
    have e3 : agoralaw14_RoomHeights.l0 (l.length + 1) l (top 0 l) 0 = some true := by
      refine law_loop l hl (top 0 l) (fun x hx hlt => ?_) l.length 0 (by omega)
      have h := top_mem l 0 x hx
      have e : g1 x = x + 1 := by unfold g1; rw [if_neg (by omega)]
      omega
    unfold agoralaw14_RoomHeights.f
    rw [if_neg c, e1, e2]
    show (if top 0 l = top 0 l then (if top 0 l < 0 then agoralaw14_RoomHeights.j0 (l.length + 2) l (top 0 l) true else agoralaw14_RoomHeights.j0 (l.length + 2) l (top 0 l) (decide (top 0 l > 1099511627776))) else agoralaw14_RoomHeights.j0 (l.length + 2) l (top 0 l) true) = some true
    rw [if_pos rfl, if_neg (by omega), decide_eq_false (by omega), agoralaw14_RoomHeights.j0, if_neg (by simp)]
    exact e3
end Go.Proofs.YtifcganfcjildaaGreatDoor.Pure
