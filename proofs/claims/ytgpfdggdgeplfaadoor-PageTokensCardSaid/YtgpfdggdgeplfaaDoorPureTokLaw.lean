/- The statement PageTokens answers yes, whatever the input. -/
import Derived.Test.YtgpfdggdgeplfaaDoorPureTokens
import Derived.Test.YtgpfdggdgeplfaaDoorQx2
namespace Go.Proofs.YtgpfdggdgeplfaaDoor.Q
open Go.RowKit Go.Proofs.YtgpfdggdgeplfaaDoorW.PrintWords Go.Proofs.YtgpfdggdgeplfaaDoorW.PrintLast Go.Proofs.YtgpfdggdgeplfaaDoorW.PrintMore

theorem same_l0t (l : List Int) (d : Nat) : ∀ (k i : Nat), i + d = l.length → l.length ≤ 1000000000 → d < k → agoralaw28_same.l0 k l l (i : Int) = some true := by
  induction d with
  | zero =>
    intro k i h hl hk
    obtain ⟨k, rfl⟩ : ∃ m, k = m + 1 := ⟨k - 1, by omega⟩
    unfold agoralaw28_same.l0
    rw [if_neg (by omega)]
  | succ d ih =>
    intro k i h hl hk
    obtain ⟨k, rfl⟩ : ∃ m, k = m + 1 := ⟨k - 1, by omega⟩
    have hw : wrap64 ((i : Int) + 1) = ((i + 1 : Nat) : Int) := by rw [w64t (by omega) (by omega)]; omega
    unfold agoralaw28_same.l0
    rw [if_pos (by omega), if_pos (by omega), if_pos (by omega), if_pos rfl, hw]
    exact ih k (i + 1) (by omega) hl (by omega)
theorem same_selft (l : List Int) (h : l.length ≤ 1000000000) (k : Nat) (hk : l.length < k) : agoralaw28_same.f k l l = some true := by
  unfold agoralaw28_same.f
  rw [if_pos rfl]
  exact same_l0t l l.length k 0 (by omega) h hk
theorem tok7 : page_Token.f true 7 = some (tokB true 7) := by
  unfold page_Token.f; rw [if_pos (by omega)]
theorem tok7_list : (tokB true 7).toList = [98, 55] := by
  rw [ByteArray.toList_eq]
  have : (tokB true 7).data.toList = tokL true 7 := by simp [tokB]
  rw [this]; unfold tokL
  rw [if_neg (by omega), show (7 : Int) = ((7 : Nat) : Int) from rfl, Go.Lib.itoa_nonneg, dd_small (by omega)]; rfl
theorem awaket (k : Nat) (hk : 10 < k) : agoralaw28_awake.f k = some true := by
  have e1 : page_Forward.f [true, false, true, true] 0 2 = some ([0, 2], 3) := by decide
  have e2 : page_Back.f [true, false, true, true] 4 5 = some ([3, 2, 0], 0) := by decide
  unfold agoralaw28_awake.f
  simp only [Option.bind_some, e1, e2]
  rw [same_selft _ (by simp) k (by simp; omega)]
  simp only [Option.bind_some, if_true]
  rw [same_selft _ (by simp) k (by simp; omega)]
  simp only [Option.bind_some, if_true]
  rw [tok7, Option.bind_some, tok7_list]; rfl
theorem page_parse_eq (s : ByteArray) (h : s.size ≤ 1000) : page_Parse.f s = some (parseB s) := by
  unfold page_Parse.f parseB; rw [if_neg (by omega)]; rfl
theorem page_token_eq (b : Bool) (n : Int) (h : -9223372036854775808 ≤ n ∧ n ≤ 9223372036854775807) : page_Token.f b n = some (tokB b n) := by
  unfold page_Token.f; rw [if_pos h]
theorem tokB_list (b : Bool) (n : Int) : (tokB b n).data.toList = tokL b n := by simp [tokB]
theorem tokB_size (b : Bool) (n : Int) (h : -9223372036854775808 ≤ n ∧ n ≤ 9223372036854775807) : (tokB b n).size ≤ 30 := by
  have h1 : (tokB b n).size = (tokL b n).length := by
    have : (tokB b n).data.toList.length = (tokB b n).size := by simp
    rw [← this, tokB_list]
  have h2 := Go.Lib.itoa_length_le n h.1 h.2
  rw [h1]; unfold tokL
  split
  · simp
  · simp only [List.length_cons]; omega
/-- A token of a place too great, or below 0, is none. -/
theorem tok_none (b : Bool) (n : Int) (h : n < 0 ∨ 999999999999999999 < n) : tokN (tokL b n) = none := by
  cases hq : tokN (tokL b n) with
  | none => rfl
  | some x =>
    obtain ⟨c, u⟩ := x
    have h1 := tokN_tok hq
    rcases h with h | h
    · unfold tokL at hq; rw [if_pos h] at hq; cases hq
    · obtain ⟨m, rfl⟩ := Int.eq_ofNat_of_zero_le (show 0 ≤ n by omega)
      have h2 := h1.1
      unfold tokL at h2
      have n1 : ¬ ((u : Nat) : Int) < 0 := by omega
      have n2 : ¬ ((m : Nat) : Int) < 0 := by omega
      rw [if_neg n1, if_neg n2, Go.Lib.itoa_nonneg, Go.Lib.itoa_nonneg] at h2
      injection h2 with _ h3
      have h4 := congrArg (dval 0) h3
      rw [dd_val, dd_val] at h4
      omega
theorem PageTokens (s : ByteArray) (b : Bool) (n : Int) (hn : -9223372036854775808 ≤ n ∧ n ≤ 9223372036854775807) : ∃ k, agoralaw28_PageTokens.f k s b n = some true := by
  refine ⟨200, ?_⟩
  unfold agoralaw28_PageTokens.f
  by_cases h100 : (s.size : Int) > 100
  · rw [if_pos h100]
  rw [if_neg h100, page_parse_eq s (by omega), Option.bind_some, ref_parse_f s 200 (by omega), Option.bind_some, page_token_eq b n hn, Option.bind_some]
  rw [if_neg (by simp), if_pos rfl, if_pos rfl, ref_token_f b n hn.2 200 (by omega), Option.bind_some, if_pos rfl]
  have hj : agoralaw28_PageTokens.j0 200 b n (tokB b n) false = some true := by
    have hz := tokB_size b n hn
    rw [show (200 : Nat) = 199 + 1 from rfl, agoralaw28_PageTokens.j0, if_neg (by decide), page_parse_eq _ (by omega), Option.bind_some]
    have haw := awaket 198 (by omega)
    by_cases h : n < 0 ∨ 999999999999999999 < n
    · have hp : parseB (tokB b n) = (false, 0, 1) := by unfold parseB; rw [tokB_list, tok_none b n h]
      rw [hp]
      have hr : agoralaw28_PageTokens.j1 199 b n false 0 1 true = some true := by
        rw [show (199 : Nat) = 198 + 1 from rfl, agoralaw28_PageTokens.j1, if_pos rfl, if_pos rfl, haw]; rfl
      rcases h with h | h
      · rw [if_pos h]; exact hr
      · rw [if_neg (by omega), decide_eq_true (by omega)]; exact hr
    · obtain ⟨u, rfl⟩ := Int.eq_ofNat_of_zero_le (show 0 ≤ n by omega)
      have hp : parseB (tokB b (u : Int)) = (b, (u : Int), 0) := by unfold parseB; rw [tokB_list, tokN_of b u (by omega)]
      rw [hp, if_neg (by omega), decide_eq_false (by omega), show (199 : Nat) = 198 + 1 from rfl, agoralaw28_PageTokens.j1, if_neg (by decide), if_pos rfl, if_pos (by simp), if_pos rfl, haw]; rfl
  cases hq : tokN s.data.toList with
  | none =>
    have hp : parseB s = (false, 0, 1) := by unfold parseB; rw [hq]
    rw [hp, if_neg (by decide)]
    exact hj
  | some x =>
    obtain ⟨c, u⟩ := x
    have hp : parseB s = (c, (u : Int), 0) := by unfold parseB; rw [hq]
    have ht := tokN_tok hq
    have hs : tokB c (u : Int) = s := by
      apply ByteArray.ext; apply Array.toList_inj.1; rw [tokB_list]; exact ht.1
    rw [hp, if_pos rfl, page_token_eq c (u : Int) (by omega), Option.bind_some, hs, show (s.toList != s.toList) = false by simp]
    exact hj
end Go.Proofs.YtgpfdggdgeplfaaDoor.Q
