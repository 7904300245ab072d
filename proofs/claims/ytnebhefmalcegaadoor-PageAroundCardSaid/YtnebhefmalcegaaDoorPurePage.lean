/- The pure statements of the laws of chapter 28 (but for PageTokens). -/
import Derived.Test.YtnebhefmalcegaaDoorQx7
import Derived.Test.YtnebhefmalcegaaDoorQx5
import Derived.Test.YtnebhefmalcegaaDoorQx6
namespace Go.Proofs.YtnebhefmalcegaaDoor.Q
open Go.RowKit Go.Proofs.YtnebhefmalcegaaDoorW.PrintWords Go.Proofs.YtnebhefmalcegaaDoorW.PrintLast Go.Proofs.YtnebhefmalcegaaDoorW.PrintMore

theorem w64 {i : Int} (h : -9223372036854775808 ≤ i) (h' : i ≤ 9223372036854775807) : wrap64 i = i := by unfold wrap64; omega

theorem rdOf_nat {α : Type} (d : α) (xs : List α) (n : Nat) : rdOf d xs (n : Int) = xs.getD n d := by simp [rdOf]

theorem same_l0 (l : List Int) (d : Nat) : ∀ (k i : Nat), i + d = l.length → l.length ≤ 1000000000000 → d < k → agoralaw28_same.l0 k l l (i : Int) = some true := by
  induction d with
  | zero =>
    intro k i hi _ hk
    obtain ⟨k, rfl⟩ : ∃ m, k = m + 1 := ⟨k - 1, by omega⟩
    simp only [agoralaw28_same.l0]; rw [if_neg (by omega)]
  | succ d ih =>
    intro k i hi hb hk
    obtain ⟨k, rfl⟩ : ∃ m, k = m + 1 := ⟨k - 1, by omega⟩
    simp only [agoralaw28_same.l0]
    rw [if_pos (by omega), if_pos (by omega), if_pos (by omega), if_pos trivial, w64 (by omega) (by omega)]
    exact ih k (i + 1) (by omega) hb (by omega)
theorem same_self (l : List Int) (h : l.length ≤ 1000000000000) (k : Nat) (hk : l.length < k) : agoralaw28_same.f k l l = some true := by
  unfold agoralaw28_same.f; rw [if_pos rfl]; exact same_l0 l l.length k 0 (by omega) h hk

/-! ### The document's pages -/
theorem ref_fwd (l : List Bool) (hl : l.length ≤ 1000) (lim : Int) (hlim : 1 ≤ lim) (a : Nat) (d : Nat) : ∀ (k n : Nat), a + n + d = l.length → d < k → ((pgWalk l (a + ·) n).length : Int) < lim →
    agoraref28_Forward.l0 k l lim (pgWalk l (a + ·) n) ((a + n : Nat) : Int) =
      if lim.toNat ≤ (pgWalk l (a + ·) (n + d)).length then some ((pgWalk l (a + ·) (n + d)).take lim.toNat, pgLast ((pgWalk l (a + ·) (n + d)).take lim.toNat) + 1)
      else some (pgWalk l (a + ·) (n + d), (l.length : Int)) := by
  induction d with
  | zero =>
    intro k n hn hk hlt
    obtain ⟨k, rfl⟩ : ∃ m, k = m + 1 := ⟨k - 1, by omega⟩
    simp only [agoraref28_Forward.l0]
    rw [if_neg (by omega), Nat.add_zero, if_neg (by omega)]
  | succ d ih =>
    intro k n hn hk hlt
    obtain ⟨k, rfl⟩ : ∃ m, k = m + 1 := ⟨k - 1, by omega⟩
    simp only [agoraref28_Forward.l0]
    rw [if_pos (by omega), if_pos (by omega)]
    have hw : wrap64 (((a + n : Nat) : Int) + 1) = ((a + (n + 1) : Nat) : Int) := by rw [w64 (by omega) (by omega)]; omega
    have hsz := pgWalk_len l (a + ·) n
    cases hx : l.getD (a + n) false with
    | true =>
      rw [if_pos (by rw [rdOf_nat]; exact hx), if_pos (by omega)]
      simp only [Option.bind_some]
      have hh := pgWalk_hit (idx := (a + ·)) hx
      rw [← hh, hw]
      have hl1 : (pgWalk l (a + ·) (n + 1)).length = (pgWalk l (a + ·) n).length + 1 := by rw [hh]; simp
      by_cases he : ((pgWalk l (a + ·) (n + 1)).length : Int) = lim
      · rw [if_pos he]
        have hp := pgWalk_prefix l (a + ·) (n + 1) d
        rw [show n + 1 + d = n + (d + 1) by omega] at hp
        have htk := List.prefix_iff_eq_take.1 hp
        have hln : (pgWalk l (a + ·) (n + 1)).length = lim.toNat := by omega
        rw [hln] at htk
        rw [if_pos (by have := hp.length_le; omega), ← htk]
        unfold pgLast
        rw [hl1, Nat.add_sub_cancel, List.getD_eq_getElem?_getD, hh, List.getElem?_append_right (Nat.le_refl _)]
        simp; omega
      · rw [if_neg he, ih k (n + 1) (by omega) (by omega) (by omega), show n + 1 + d = n + (d + 1) by omega]
    | false =>
      rw [if_neg (by rw [rdOf_nat, hx]; decide)]
      have hh := pgWalk_miss (idx := (a + ·)) hx
      rw [hw, ← hh, ih k (n + 1) (by omega) (by omega) (by rw [hh]; omega), show n + 1 + d = n + (d + 1) by omega]
theorem ref_back (l : List Bool) (hl : l.length ≤ 1000) (lim : Int) (hlim : 1 ≤ lim) (a : Nat) (ha : a ≤ l.length) (d : Nat) : ∀ (k n : Nat), n + d = a → d < k → ((pgWalk l (a - 1 - ·) n).length : Int) < lim →
    agoraref28_Back.l0 k l lim (pgWalk l (a - 1 - ·) n) ((a : Int) - 1 - n) =
      if lim.toNat ≤ (pgWalk l (a - 1 - ·) (n + d)).length then some ((pgWalk l (a - 1 - ·) (n + d)).take lim.toNat, pgLast ((pgWalk l (a - 1 - ·) (n + d)).take lim.toNat))
      else some (pgWalk l (a - 1 - ·) (n + d), 0) := by
  induction d with
  | zero =>
    intro k n hn hk hlt
    obtain ⟨k, rfl⟩ : ∃ m, k = m + 1 := ⟨k - 1, by omega⟩
    simp only [agoraref28_Back.l0]
    rw [if_neg (by omega), Nat.add_zero, if_neg (by omega)]
  | succ d ih =>
    intro k n hn hk hlt
    obtain ⟨k, rfl⟩ : ∃ m, k = m + 1 := ⟨k - 1, by omega⟩
    have e0 : ((a : Int) - 1 - n) = ((a - 1 - n : Nat) : Int) := by omega
    simp only [agoraref28_Back.l0]
    rw [if_pos (by omega), if_pos (by omega), if_pos (by omega)]
    have hw : wrap64 (((a : Int) - 1 - n) - 1) = (a : Int) - 1 - ((n + 1 : Nat) : Int) := by rw [w64 (by omega) (by omega)]; omega
    have hsz := pgWalk_len l (a - 1 - ·) n
    rw [hw, e0]
    cases hx : l.getD (a - 1 - n) false with
    | true =>
      rw [if_pos (by rw [rdOf_nat]; exact hx), if_pos (by omega)]
      simp only [Option.bind_some]
      have hh := pgWalk_hit (idx := (a - 1 - ·)) hx
      rw [← hh]
      have hl1 : (pgWalk l (a - 1 - ·) (n + 1)).length = (pgWalk l (a - 1 - ·) n).length + 1 := by rw [hh]; simp
      by_cases he : ((pgWalk l (a - 1 - ·) (n + 1)).length : Int) = lim
      · rw [if_pos he]
        have hp := pgWalk_prefix l (a - 1 - ·) (n + 1) d
        rw [show n + 1 + d = n + (d + 1) by omega] at hp
        have htk := List.prefix_iff_eq_take.1 hp
        have hln : (pgWalk l (a - 1 - ·) (n + 1)).length = lim.toNat := by omega
        rw [hln] at htk
        rw [if_pos (by have := hp.length_le; omega), ← htk]
        unfold pgLast
        rw [hl1, Nat.add_sub_cancel, List.getD_eq_getElem?_getD, hh, List.getElem?_append_right (Nat.le_refl _)]
        simp
      · rw [if_neg he, ih k (n + 1) (by omega) (by omega) (by omega), show n + 1 + d = n + (d + 1) by omega]
    | false =>
      rw [if_neg (by rw [rdOf_nat, hx]; decide)]
      have hh := pgWalk_miss (idx := (a - 1 - ·)) hx
      rw [← hh, ih k (n + 1) (by omega) (by omega) (by rw [hh]; omega), show n + 1 + d = n + (d + 1) by omega]
theorem ref_fwd_eq (l : List Bool) (hl : l.length ≤ 1000) (a1 a2 : Int) (k : Nat) (hk : l.length < k) : agoraref28_Forward.f k l a1 a2 = page_Forward.f l a1 a2 := by
  have hc := pgAt_cast l a1
  have hle := pgAt_le l a1
  unfold agoraref28_Forward.f page_Forward.f agoraref28_begin.f
  rw [if_neg (by omega)]
  simp only [Option.bind_some]
  rw [← hc]
  by_cases h1 : a2 < 1
  · rw [if_pos h1, if_pos h1]
  · rw [if_neg h1, if_neg h1]
    have := ref_fwd l hl a2 (by omega) (pgAt l a1) (l.length - pgAt l a1) k 0 (by omega) (by omega) (by rw [pgWalk_zero]; simp; omega)
    rw [pgWalk_zero, Nat.zero_add, Nat.add_zero] at this
    exact this
theorem ref_back_eq (l : List Bool) (hl : l.length ≤ 1000) (a1 a2 : Int) (k : Nat) (hk : l.length < k) : agoraref28_Back.f k l a1 a2 = page_Back.f l a1 a2 := by
  have hc := pgAt_cast l a1
  have hle := pgAt_le l a1
  unfold agoraref28_Back.f page_Back.f agoraref28_begin.f
  rw [if_neg (by omega)]
  simp only [Option.bind_some]
  rw [← hc]
  by_cases h1 : a2 < 1
  · rw [if_pos h1, if_pos h1]
  · rw [if_neg h1, if_neg h1, w64 (by omega) (by omega)]
    have := ref_back l hl a2 (by omega) (pgAt l a1) hle (pgAt l a1) k 0 (by omega) (by omega) (by rw [pgWalk_zero]; simp; omega)
    rw [pgWalk_zero, Nat.zero_add, show ((pgAt l a1 : Int) - 1 - ((0 : Nat) : Int)) = (pgAt l a1 : Int) - 1 by omega] at this
    exact this
theorem fwd_some (l : List Bool) (hl : l.length ≤ 1000) (a1 a2 : Int) : ∃ r, page_Forward.f l a1 a2 = some r ∧ r.1.length ≤ l.length := by
  unfold page_Forward.f
  have hle := pgAt_le l a1
  have h1 := pgWalk_len l (pgAt l a1 + ·) (l.length - pgAt l a1)
  rw [if_neg (by omega)]
  split
  · exact ⟨_, rfl, by simp⟩
  · split
    · exact ⟨_, rfl, by simp; omega⟩
    · exact ⟨_, rfl, by simp; omega⟩
theorem back_some (l : List Bool) (hl : l.length ≤ 1000) (a1 a2 : Int) : ∃ r, page_Back.f l a1 a2 = some r ∧ r.1.length ≤ l.length := by
  unfold page_Back.f
  have hle := pgAt_le l a1
  have h1 := pgWalk_len l (pgAt l a1 - 1 - ·) (pgAt l a1)
  rw [if_neg (by omega)]
  split
  · exact ⟨_, rfl, by simp⟩
  · split
    · exact ⟨_, rfl, by simp; omega⟩
    · exact ⟨_, rfl, by simp; omega⟩
theorem awake_ (k : Nat) (hk : 10 < k) : agoralaw28_awake.f k = some true := by
  have e1 : page_Forward.f [true, false, true, true] 0 2 = some ([0, 2], 3) := by decide
  have e2 : page_Back.f [true, false, true, true] 4 5 = some ([3, 2, 0], 0) := by decide
  unfold agoralaw28_awake.f
  simp only [Option.bind_some, e1, e2]
  rw [same_self _ (by simp) k (by simp; omega)]
  simp only [Option.bind_some, if_true]
  rw [same_self _ (by simp) k (by simp; omega)]
  simp only [Option.bind_some, if_true]
  decide +kernel

theorem PagePages : ∀ (l0 : List Bool) (a1 a2 : Int), ∃ k, agoralaw28_PagePages.f k l0 a1 a2 = some true := by
  intro l a1 a2
  refine ⟨2000, ?_⟩
  unfold agoralaw28_PagePages.f
  by_cases h : (l.length : Int) > 500
  · rw [if_pos h]
  rw [if_neg h]
  obtain ⟨r, hr, hr1⟩ := fwd_some l (by omega) a1 a2
  obtain ⟨q, hq, hq1⟩ := back_some l (by omega) a1 a2
  rw [ref_fwd_eq l (by omega) _ _ _ (by omega), ref_back_eq l (by omega) _ _ _ (by omega), hr, hq]
  simp only [Option.bind_some]
  rw [same_self _ (by omega) _ (by omega)]
  simp only [Option.bind_some, if_true]
  rw [same_self _ (by omega) _ (by omega)]
  simp only [Option.bind_some, if_true]
  rw [awake_ _ (by omega)]
  rfl

theorem around_eq (l : List Bool) (hl : l.length ≤ 500) (a1 a2 : Int) (k : Nat) (hk : 1000 < k) : agoraref28_Around.f k l a1 a2 = page_Around.f k l a1 a2 := by
  have hj : ∀ b, agoraref28_Around.j0 k l a1 a2 b = page_Around.j0 k l a1 a2 b := fun b => by
    obtain ⟨k, rfl⟩ : ∃ m, k = m + 1 := ⟨k - 1, by omega⟩
    simp only [agoraref28_Around.j0, page_Around.j0]
    simp only [ref_back_eq l (by omega) _ _ k (by omega), ref_fwd_eq l (by omega) _ _ k (by omega)]
  unfold agoraref28_Around.f page_Around.f
  simp only [hj]
theorem fwd_le (l : List Bool) (hl : l.length ≤ 1000) (a1 a2 : Int) : ∃ r, page_Forward.f l a1 a2 = some r ∧ r.1.length ≤ l.length ∧ (r.1.length : Int) ≤ mx 0 a2 := by
  unfold page_Forward.f
  have hle := pgAt_le l a1
  have h1 := pgWalk_len l (pgAt l a1 + ·) (l.length - pgAt l a1)
  rw [if_neg (by omega)]
  unfold mx
  split
  · exact ⟨_, rfl, by simp, by simp; split <;> omega⟩
  · split
    · exact ⟨_, rfl, by simp; omega, by simp; split <;> omega⟩
    · exact ⟨_, rfl, by simp; omega, by simp; split <;> omega⟩
theorem back_le (l : List Bool) (hl : l.length ≤ 1000) (a1 a2 : Int) : ∃ r, page_Back.f l a1 a2 = some r ∧ r.1.length ≤ l.length ∧ (r.1.length : Int) ≤ mx 0 a2 := by
  unfold page_Back.f
  have hle := pgAt_le l a1
  have h1 := pgWalk_len l (pgAt l a1 - 1 - ·) (pgAt l a1)
  rw [if_neg (by omega)]
  unfold mx
  split
  · exact ⟨_, rfl, by simp, by simp; split <;> omega⟩
  · split
    · exact ⟨_, rfl, by simp; omega, by simp; split <;> omega⟩
    · exact ⟨_, rfl, by simp; omega, by simp; split <;> omega⟩
theorem around_some (l : List Bool) (hl : l.length ≤ 500) (a1 a2 : Int) (ha2 : a2 ≤ 9223372036854775807) (k : Nat) (hk : 1000 < k) : ∃ r, page_Around.f k l a1 a2 = some r ∧ r.1.length ≤ l.length ∧ r.2.1.length ≤ l.length ∧ (r.1.length : Int) + (r.2.1.length : Int) ≤ mx 0 a2 := by
  have hj : ∀ b, ∃ r, page_Around.j0 k l a1 a2 b = some r ∧ r.1.length ≤ l.length ∧ r.2.1.length ≤ l.length ∧ (r.1.length : Int) + (r.2.1.length : Int) ≤ mx 0 a2 := fun b => by
    obtain ⟨k, rfl⟩ : ∃ m, k = m + 1 := ⟨k - 1, by omega⟩
    simp only [page_Around.j0]
    have hm : 0 ≤ mx 0 a2 ∧ mx 0 a2 ≤ 9223372036854775807 := by unfold mx; split <;> omega
    split
    · exact ⟨_, rfl, by simp, by simp, by simp; omega⟩
    · rw [w64 (i := mx 0 a2 / 2) (by omega) (by omega), w64 (i := mx 0 a2 - mx 0 a2 / 2) (by omega) (by omega)]
      obtain ⟨r, hr, hr1, hr2⟩ := back_le l (by omega) a1 (mx 0 a2 / 2)
      obtain ⟨q, hq, hq1, hq2⟩ := fwd_le l (by omega) (wrap64 (a1 + 1)) (mx 0 a2 - mx 0 a2 / 2)
      rw [hr]; simp only [Option.bind_some]
      rw [hq]; simp only [Option.bind_some]
      refine ⟨_, rfl, hr1, hq1, ?_⟩
      have e1 : mx 0 (mx 0 a2 / 2) = mx 0 a2 / 2 := by generalize mx 0 a2 = z at *; unfold mx; split <;> omega
      have e2 : mx 0 (mx 0 a2 - mx 0 a2 / 2) = mx 0 a2 - mx 0 a2 / 2 := by generalize mx 0 a2 = z at *; unfold mx; split <;> omega
      rw [e1] at hr2; rw [e2] at hq2
      show (r.1.length : Int) + (q.1.length : Int) ≤ mx 0 a2
      omega
  unfold page_Around.f
  repeat' split
  all_goals first | exact hj _ | omega
theorem PageAround : ∀ (l0 : List Bool) (a1 a2 : Int), a2 ≤ 9223372036854775807 → ∃ k, agoralaw28_PageAround.f k l0 a1 a2 = some true := by
  intro l a1 a2 ha2
  refine ⟨2000, ?_⟩
  unfold agoralaw28_PageAround.f
  by_cases h : (l.length : Int) > 500
  · rw [if_pos h]
  rw [if_neg h, around_eq l (by omega) _ _ _ (by omega)]
  obtain ⟨r, hr, hr1, hr2, hr3⟩ := around_some l (by omega) a1 a2 ha2 2000 (by omega)
  rw [hr]; simp only [Option.bind_some]
  rw [same_self _ (by omega) _ (by omega)]
  simp only [Option.bind_some, if_true]
  rw [same_self _ (by omega) _ (by omega)]
  simp only [Option.bind_some, if_true, beq_self_eq_true]
  rw [w64 (by omega) (by omega), if_pos hr3, awake_ _ (by omega)]
  rfl

/-! ### Walks put together -/
theorem pgWalk_add (l : List Bool) (idx : Nat → Nat) (n : Nat) : ∀ m, pgWalk l idx (n + m) = pgWalk l idx n ++ pgWalk l (fun j => idx (n + j)) m
  | 0 => by simp [pgWalk_zero]
  | m + 1 => by
    show pgWalk l idx (n + m + 1) = _
    cases h : l.getD (idx (n + m)) false with
    | true => rw [pgWalk_hit h, pgWalk_add l idx n m, pgWalk_hit (idx := fun j => idx (n + j)) h, List.append_assoc]
    | false => rw [pgWalk_miss h, pgWalk_add l idx n m, pgWalk_miss (idx := fun j => idx (n + j)) h]
theorem pgWalk_congr {l : List Bool} {f g : Nat → Nat} : ∀ n, (∀ j, j < n → f j = g j) → pgWalk l f n = pgWalk l g n
  | 0, _ => rfl
  | n + 1, h => by
    have ih := pgWalk_congr (l := l) n (fun j hj => h j (by omega))
    have e := h n (by omega)
    cases hx : l.getD (f n) false with
    | true => rw [pgWalk_hit hx, pgWalk_hit (by rw [← e]; exact hx), ih, e]
    | false => rw [pgWalk_miss hx, pgWalk_miss (by rw [← e]; exact hx), ih]
theorem pgWalk_one (l : List Bool) (f : Nat → Nat) : pgWalk l f 1 = if l.getD (f 0) false = true then [((f 0 : Nat) : Int)] else [] := by
  cases h : l.getD (f 0) false with
  | true => rw [pgWalk_hit (n := 0) h]; simp [pgWalk_zero]
  | false => rw [pgWalk_miss (n := 0) h]; simp [pgWalk_zero]
theorem pgWalk_down (l : List Bool) (b : Nat) : ∀ n, n ≤ b → pgWalk l (b - 1 - ·) n = (pgWalk l (b - n + ·) n).reverse
  | 0, _ => by simp [pgWalk_zero]
  | n + 1, h => by
    have ih := pgWalk_down l b n (by omega)
    rw [pgWalk_add l (b - 1 - ·) n 1, ih]
    rw [show n + 1 = 1 + n by omega, pgWalk_add l (b - (1 + n) + ·) 1 n, List.reverse_append]
    have e1 : pgWalk l (fun j => b - (1 + n) + (1 + j)) n = pgWalk l (b - n + ·) n := pgWalk_congr n (fun j hj => by omega)
    rw [e1]
    congr 1
    rw [pgWalk_one, pgWalk_one]
    have e2 : b - 1 - (n + 0) = b - (1 + n) + 0 := by omega
    simp only [e2]
    split <;> simp
theorem pgWalk_cut (l : List Bool) (idx : Nat → Nat) (lim : Nat) (h1 : 1 ≤ lim) : ∀ N, lim ≤ (pgWalk l idx N).length → ∃ m, m < N ∧ pgWalk l idx (m + 1) = (pgWalk l idx N).take lim ∧ pgLast ((pgWalk l idx N).take lim) = (idx m : Int)
  | 0, h => by simp [pgWalk_zero] at h; omega
  | N + 1, h => by
    by_cases hN : lim ≤ (pgWalk l idx N).length
    · obtain ⟨m, hm, h2, h3⟩ := pgWalk_cut l idx lim h1 N hN
      have hp := pgWalk_prefix l idx N 1
      obtain ⟨z, hz⟩ := hp
      have e : (pgWalk l idx (N + 1)).take lim = (pgWalk l idx N).take lim := by rw [← hz, List.take_append_of_le_length hN]
      rw [e]
      exact ⟨m, by omega, h2, h3⟩
    · cases hx : l.getD (idx N) false with
      | true =>
        have hh := pgWalk_hit hx
        have hl : (pgWalk l idx (N + 1)).length = (pgWalk l idx N).length + 1 := by rw [hh]; simp
        refine ⟨N, by omega, by rw [List.take_of_length_le (by omega)], ?_⟩
        rw [List.take_of_length_le (by omega)]
        unfold pgLast
        rw [hl, Nat.add_sub_cancel, List.getD_eq_getElem?_getD, hh, List.getElem?_append_right (Nat.le_refl _)]
        simp
      | false => rw [pgWalk_miss hx] at h; omega

/-- A page forwards: what stands up to where one is to go on. -/
theorem fwd_shape (l : List Bool) (hl : l.length ≤ 1000) (a : Nat) (ha : a < l.length) (lim : Int) (hlim : 1 ≤ lim) : ∃ nx : Nat, a < nx ∧ nx ≤ l.length ∧ page_Forward.f l (a : Int) lim = some (pgWalk l (a + ·) (nx - a), (nx : Int)) ∧ ((pgWalk l (a + ·) (nx - a)).length : Int) ≤ lim := by
  have hat : pgAt l (a : Int) = a := by have := pgAt_cast l (a : Int); unfold mn mx at this; split at this <;> split at this <;> omega
  unfold page_Forward.f
  rw [if_neg (by omega), if_neg (by omega), hat]
  by_cases h : lim.toNat ≤ (pgWalk l (a + ·) (l.length - a)).length
  · rw [if_pos h]
    obtain ⟨m, hm, h2, h3⟩ := pgWalk_cut l (a + ·) lim.toNat (by omega) _ h
    refine ⟨a + m + 1, by omega, by omega, ?_, ?_⟩
    · rw [h3, ← h2, show a + m + 1 - a = m + 1 by omega]; congr 2
    · rw [show a + m + 1 - a = m + 1 by omega, h2]; simp; omega
  · rw [if_neg h]
    exact ⟨l.length, by omega, Nat.le_refl _, rfl, by omega⟩
theorem back_shape (l : List Bool) (hl : l.length ≤ 1000) (b : Nat) (hb0 : 0 < b) (hb : b ≤ l.length) (lim : Int) (hlim : 1 ≤ lim) : ∃ nx : Nat, nx < b ∧ page_Back.f l (b : Int) lim = some (pgWalk l (b - 1 - ·) (b - nx), (nx : Int)) ∧ ((pgWalk l (b - 1 - ·) (b - nx)).length : Int) ≤ lim := by
  have hat : pgAt l (b : Int) = b := by have := pgAt_cast l (b : Int); unfold mn mx at this; split at this <;> split at this <;> omega
  unfold page_Back.f
  rw [if_neg (by omega), if_neg (by omega), hat]
  by_cases h : lim.toNat ≤ (pgWalk l (b - 1 - ·) b).length
  · rw [if_pos h]
    obtain ⟨m, hm, h2, h3⟩ := pgWalk_cut l (b - 1 - ·) lim.toNat (by omega) _ h
    refine ⟨b - 1 - m, by omega, ?_, ?_⟩
    · rw [h3, ← h2, show b - (b - 1 - m) = m + 1 by omega]
    · rw [show b - (b - 1 - m) = m + 1 by omega, h2]; simp; omega
  · rw [if_neg h]
    exact ⟨0, hb0, by rw [Nat.sub_zero]; rfl, by rw [Nat.sub_zero]; omega⟩

theorem rd_nat (xs : List Int) (n : Nat) : rd xs (n : Int) = xs.getD n 0 := by simp [rd]
theorem meets_l0 (xs : List Int) (hx : xs.length ≤ 1000) (d : Nat) : ∀ (k i : Nat), i + d = xs.length → d + 20 < k → agoralaw28_PageMeets.l0 k xs xs.reverse (i : Int) = some true := by
  induction d with
  | zero =>
    intro k i hi hk
    obtain ⟨k, rfl⟩ : ∃ m, k = m + 1 := ⟨k - 1, by omega⟩
    simp only [agoralaw28_PageMeets.l0]; rw [if_neg (by omega), awake_ k (by omega)]; rfl
  | succ d ih =>
    intro k i hi hk
    obtain ⟨k, rfl⟩ : ∃ m, k = m + 1 := ⟨k - 1, by omega⟩
    simp only [agoralaw28_PageMeets.l0]
    have e : wrap64 (wrap64 ((xs.length : Int) - 1) - (i : Int)) = ((xs.length - 1 - i : Nat) : Int) := by rw [w64 (i := (xs.length : Int) - 1) (by omega) (by omega), w64 (by omega) (by omega)]; omega
    rw [if_pos (by omega), if_pos (by omega), if_pos (by simp; omega), e, if_pos (by omega), if_pos (by omega), if_pos, w64 (by omega) (by omega)]
    · exact ih k (i + 1) (by omega) (by omega)
    · rw [rd_nat, rd_nat, List.getD_eq_getElem?_getD, List.getD_eq_getElem?_getD, List.getElem?_reverse (by omega)]
theorem meets_j0 (l : List Bool) (hl : l.length ≤ 500) (a1 a2 : Int) (h2 : 1 ≤ a2) (k : Nat) (hk : 1500 < k) : agoralaw28_PageMeets.j0 k l a1 a2 false = some true := by
  obtain ⟨k, rfl⟩ : ∃ m, k = m + 1 := ⟨k - 1, by omega⟩
  simp only [agoralaw28_PageMeets.j0]
  rw [if_neg (by decide)]
  have hle := pgAt_le l a1
  by_cases he : pgAt l a1 < l.length
  · obtain ⟨nx, hn1, hn2, hf, _⟩ := fwd_shape l (by omega) (pgAt l a1) he a2 h2
    have hf' : page_Forward.f l a1 a2 = page_Forward.f l (pgAt l a1 : Int) a2 := by
      have : pgAt l (pgAt l a1 : Int) = pgAt l a1 := by have := pgAt_cast l (pgAt l a1 : Int); unfold mn mx at this; split at this <;> split at this <;> omega
      unfold page_Forward.f; rw [this]
    rw [hf', hf]
    simp only [Option.bind_some]
    generalize hout : pgWalk l (pgAt l a1 + ·) (nx - pgAt l a1) = out
    have hol : out.length ≤ 500 := by rw [← hout]; have := pgWalk_len l (pgAt l a1 + ·) (nx - pgAt l a1); omega
    by_cases h0 : (out.length : Int) = 0
    · rw [if_pos h0, awake_ k (by omega)]; rfl
    rw [if_neg h0]
    have hD : pgWalk l (nx - 1 - ·) nx = out.reverse ++ (pgWalk l (0 + ·) (pgAt l a1)).reverse := by
      rw [pgWalk_down l nx nx (Nat.le_refl _), Nat.sub_self]
      conv => lhs; rw [show nx = pgAt l a1 + (nx - pgAt l a1) by omega]
      rw [pgWalk_add, List.reverse_append, ← hout]
      congr 2
      exact pgWalk_congr _ (fun j _ => by omega)
    have hb : page_Back.f l (nx : Int) (out.length : Int) = some (out.reverse, rd out 0) := by
      have hat : pgAt l (nx : Int) = nx := by have := pgAt_cast l (nx : Int); unfold mn mx at this; split at this <;> split at this <;> omega
      unfold page_Back.f
      rw [if_neg (by omega), if_neg (by omega), hat, hD, Int.toNat_natCast, if_pos (by simp), List.take_append_of_le_length (by simp), List.take_of_length_le (by simp)]
      congr 2
      unfold pgLast rd
      rw [List.getD_eq_getElem?_getD, List.getD_eq_getElem?_getD, List.length_reverse, List.getElem?_reverse (by omega)]
      congr 2; omega
    rw [hb]
    simp only [Option.bind_some, List.length_reverse]
    rw [if_pos trivial, if_pos (by omega)]
    obtain ⟨k, rfl⟩ : ∃ m, k = m + 1 := ⟨k - 1, by omega⟩
    simp only [agoralaw28_PageMeets.j1]
    rw [if_neg (by simp)]
    exact meets_l0 out (by omega) out.length k 0 (by omega) (by omega)
  · have hf : page_Forward.f l a1 a2 = some ([], (l.length : Int)) := by
      unfold page_Forward.f
      have : l.length - pgAt l a1 = 0 := by omega
      rw [if_neg (by omega), if_neg (by omega), this, pgWalk_zero, if_neg (by simp; omega)]
    rw [hf]
    simp only [Option.bind_some, List.length_nil]
    rw [if_pos (by rfl), awake_ k (by omega)]; rfl
theorem PageMeets : ∀ (l0 : List Bool) (a1 a2 : Int), ∃ k, agoralaw28_PageMeets.f k l0 a1 a2 = some true := by
  intro l a1 a2
  refine ⟨2000, ?_⟩
  unfold agoralaw28_PageMeets.f
  have ht : agoralaw28_PageMeets.j0 2000 l a1 a2 true = some true := by
    show agoralaw28_PageMeets.j0 (1999 + 1) l a1 a2 true = some true
    simp only [agoralaw28_PageMeets.j0]; rfl
  by_cases h : (l.length : Int) > 500
  · rw [if_pos h]; exact ht
  rw [if_neg h]
  by_cases h2 : a2 < 1
  · rw [decide_eq_true h2]; exact ht
  · rw [decide_eq_false h2]; exact meets_j0 l (by omega) a1 a2 (by omega) 2000 (by omega)

theorem all_l3 (q : List Int) (up : List Int) (hq : q.length ≤ 1000) (hu : up.length ≤ 1000) (hrev : q.reverse = up) (d : Nat) : ∀ (k : Nat) (t : List Int), d ≤ q.length → t = (q.drop d).reverse → d + 1100 < k →
    agoralaw28_PageAll.l3 k up q up t ((d : Int) - 1) = some true := by
  induction d with
  | zero =>
    intro k t _ ht hk
    obtain ⟨k, rfl⟩ : ∃ m, k = m + 1 := ⟨k - 1, by omega⟩
    simp only [agoralaw28_PageAll.l3]
    rw [if_neg (by omega), same_self up (by omega) k (by omega)]
    simp only [Option.bind_some, if_true]
    rw [ht, List.drop_zero, hrev, same_self up (by omega) k (by omega)]
    simp only [Option.bind_some, if_true]
    rw [awake_ k (by omega)]; rfl
  | succ d ih =>
    intro k t hd ht hk
    obtain ⟨k, rfl⟩ : ∃ m, k = m + 1 := ⟨k - 1, by omega⟩
    simp only [agoralaw28_PageAll.l3]
    have e0 : (((d + 1 : Nat) : Int) - 1) = (d : Int) := by omega
    have htl : t.length ≤ 1000 := by rw [ht]; simp; omega
    rw [e0, if_pos (by omega), if_pos (by omega), if_pos (by omega), if_pos (by omega), w64 (by omega) (by omega)]
    refine ih k _ (by omega) ?_ (by omega)
    rw [ht, rd_nat, List.drop_eq_getElem_cons (by omega : d < q.length), List.reverse_cons, List.getD_eq_getElem?_getD, List.getElem?_eq_getElem (by omega : d < q.length)]; rfl
theorem all_l2 (l : List Bool) (hl : l.length ≤ 500) (up q : List Int) (hq : q.length ≤ 1000) (hu : up = pgWalk l (0 + ·) l.length) (hrev : q.reverse = up) (d : Nat) : ∀ (k n : Nat), n + d = l.length → d + 3000 < k →
    agoralaw28_PageAll.l2 k l up q (pgWalk l (0 + ·) n) (n : Int) = some true := by
  induction d with
  | zero =>
    intro k n hn hk
    obtain ⟨k, rfl⟩ : ∃ m, k = m + 1 := ⟨k - 1, by omega⟩
    simp only [agoralaw28_PageAll.l2]
    have hul : up.length ≤ 1000 := by rw [hu]; have := pgWalk_len l (0 + ·) l.length; omega
    rw [if_neg (by omega), w64 (by omega) (by omega), show n = l.length by omega, ← hu]
    exact all_l3 q up hq hul hrev q.length k [] (Nat.le_refl _) (by simp) (by omega)
  | succ d ih =>
    intro k n hn hk
    obtain ⟨k, rfl⟩ : ∃ m, k = m + 1 := ⟨k - 1, by omega⟩
    simp only [agoralaw28_PageAll.l2]
    have hsz := pgWalk_len l (0 + ·) n
    have hw : wrap64 ((n : Int) + 1) = ((n + 1 : Nat) : Int) := by rw [w64 (by omega) (by omega)]; omega
    rw [if_pos (by omega), if_pos (by omega), hw]
    cases hx : l.getD (0 + n) false with
    | true =>
      rw [if_pos (by rw [rdOf_nat]; simpa using hx), if_pos (by omega)]
      have hh := pgWalk_hit (idx := (0 + ·)) hx
      have e : pgWalk l (0 + ·) n ++ [(n : Int)] = pgWalk l (0 + ·) (n + 1) := by rw [hh]; simp
      rw [e]; exact ih k (n + 1) (by omega) (by omega)
    | false =>
      rw [if_neg (by rw [rdOf_nat]; simp only [Nat.zero_add] at hx; rw [hx]; decide)]
      have hh := pgWalk_miss (idx := (0 + ·)) hx
      rw [← hh]; exact ih k (n + 1) (by omega) (by omega)
theorem all_l1 (l : List Bool) (hl : l.length ≤ 500) (lim : Int) (hlim : 1 ≤ lim) (up : List Int) (hu : up = pgWalk l (0 + ·) l.length) (b : Nat) : ∀ (k n : Nat), b ≤ l.length → n + b ≤ 2 * l.length → b + 5000 < k →
    agoralaw28_PageAll.l1 k l lim up (pgWalk l (l.length - 1 - ·) (l.length - b)) (b : Int) (n : Int) = some true := by
  induction b using Nat.strongRecOn with
  | _ b ih =>
    intro k n hb hn hk
    obtain ⟨k, rfl⟩ : ∃ m, k = m + 1 := ⟨k - 1, by omega⟩
    simp only [agoralaw28_PageAll.l1]
    by_cases h0 : 0 < b
    · obtain ⟨nx, h1, h2, h3⟩ := back_shape l (by omega) b h0 hb lim hlim
      have hw1 := pgWalk_len l (b - 1 - ·) (b - nx)
      have hw2 := pgWalk_len l (l.length - 1 - ·) (l.length - b)
      rw [if_pos (by omega), h2]
      simp only [Option.bind_some]
      rw [if_neg (by omega), if_neg (by omega), w64 (i := 2 * (l.length : Int)) (by omega) (by omega), w64 (i := 2 * (l.length : Int) + 2) (by omega) (by omega), if_neg (by omega), if_pos (by omega), w64 (i := (n : Int) + 1) (by omega) (by omega)]
      have e : pgWalk l (l.length - 1 - ·) (l.length - b) ++ pgWalk l (b - 1 - ·) (b - nx) = pgWalk l (l.length - 1 - ·) (l.length - nx) := by
        rw [show l.length - nx = (l.length - b) + (b - nx) by omega, pgWalk_add]
        congr 1
        exact pgWalk_congr _ (fun j hj => by omega)
      rw [e]
      exact ih nx h1 k (n + 1) (by omega) (by omega) (by omega)
    · obtain rfl : b = 0 := by omega
      rw [if_neg (by omega), Nat.sub_zero]
      have hw2 := pgWalk_len l (l.length - 1 - ·) l.length
      refine all_l2 l hl up _ (by omega) hu ?_ l.length k 0 (by omega) (by omega)
      rw [hu, pgWalk_down l l.length l.length (Nat.le_refl _), Nat.sub_self, List.reverse_reverse]
theorem all_l0 (l : List Bool) (hl : l.length ≤ 500) (lim : Int) (hlim : 1 ≤ lim) (d : Nat) : ∀ (k a n : Nat), a + d = l.length → n ≤ a → d + 6000 < k →
    agoralaw28_PageAll.l0 k l lim (pgWalk l (0 + ·) a) (a : Int) (n : Int) = some true := by
  induction d using Nat.strongRecOn with
  | _ d ih =>
    intro k a n ha hn hk
    obtain ⟨k, rfl⟩ : ∃ m, k = m + 1 := ⟨k - 1, by omega⟩
    simp only [agoralaw28_PageAll.l0]
    by_cases h0 : a < l.length
    · obtain ⟨nx, h1, h2, h3, h4⟩ := fwd_shape l (by omega) a h0 lim hlim
      have hw1 := pgWalk_len l (a + ·) (nx - a)
      have hw2 := pgWalk_len l (0 + ·) a
      rw [if_pos (by omega), h3]
      simp only [Option.bind_some]
      rw [if_neg (by omega), if_neg (by omega), if_neg (by omega), if_pos (by omega), w64 (i := (n : Int) + 1) (by omega) (by omega)]
      have e : pgWalk l (0 + ·) a ++ pgWalk l (a + ·) (nx - a) = pgWalk l (0 + ·) nx := by
        conv => rhs; rw [show nx = a + (nx - a) by omega]
        rw [pgWalk_add]
        congr 1
        exact pgWalk_congr _ (fun j hj => by omega)
      rw [e]
      exact ih (l.length - nx) (by omega) k nx (n + 1) (by omega) (by omega) (by omega)
    · rw [if_neg (by omega), show a = l.length by omega]
      have := all_l1 l hl lim hlim (pgWalk l (0 + ·) l.length) rfl l.length k n (Nat.le_refl _) (by omega) (by omega)
      rwa [Nat.sub_self, pgWalk_zero] at this
theorem PageAll : ∀ (l0 : List Bool) (a1 : Int), ∃ k, agoralaw28_PageAll.f k l0 a1 = some true := by
  intro l a1
  refine ⟨9000, ?_⟩
  unfold agoralaw28_PageAll.f
  have ht : agoralaw28_PageAll.j0 9000 l a1 true = some true := by
    show agoralaw28_PageAll.j0 (8999 + 1) l a1 true = some true
    simp only [agoralaw28_PageAll.j0]; rfl
  by_cases h : (l.length : Int) > 500
  · rw [if_pos h]; exact ht
  rw [if_neg h]
  by_cases h2 : a1 < 1
  · rw [decide_eq_true h2]; exact ht
  · rw [decide_eq_false h2]
    show agoralaw28_PageAll.j0 (8999 + 1) l a1 false = some true
    simp only [agoralaw28_PageAll.j0]
    rw [if_neg (by simp)]
    exact all_l0 l (by omega) a1 (by omega) l.length 8999 0 0 (by omega) (by omega) (by omega)
end Go.Proofs.YtnebhefmalcegaaDoor.Q
