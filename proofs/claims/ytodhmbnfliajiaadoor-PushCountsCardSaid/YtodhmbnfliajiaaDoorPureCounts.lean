/- PureCounts: a text of this claim's proof, as printed or written, without what the claim does not use. -/
import Derived.Test.YtodhmbnfliajiaaDoorPureStands
import Derived.Test.YtodhmbnfliajiaaDoorQx0
import Derived.Test.YtodhmbnfliajiaaDoorQx2
namespace Go.Proofs.YtodhmbnfliajiaaDoor.Q
open Go.RowKit Go.Lib Go.Proofs.YtodhmbnfliajiaaDoorW.PrintWords Go.Proofs.YtodhmbnfliajiaaDoorW.PrintLast Go.Proofs.YtodhmbnfliajiaaDoorW.PrintMore
theorem dd_noOp (u : Nat) : (decDigits u).takeWhile isOp = [] ∧ (decDigits u).dropWhile isOp = decDigits u := by
  have h1 := dd_all u
  have h2 := dd_ne u
  generalize decDigits u = l at *
  cases l with
  | nil => exact absurd rfl h2
  | cons c r =>
    have hd : isD c = true := by rw [List.all_cons, Bool.and_eq_true] at h1; exact h1.1
    have hc : isOp c = false := by
      unfold isD at hd; rw [decide_eq_true_eq] at hd
      unfold isOp; exact decide_eq_false (by omega)
    exact ⟨List.takeWhile_cons_of_neg (by rw [hc]; decide), List.dropWhile_cons_of_neg (by rw [hc]; decide)⟩
theorem dd_nine (u : Nat) (hu : u ≤ 999999999) : dig9 (decDigits u) = some u := by
  unfold dig9
  rw [if_pos ⟨dd_ne u, (dd_len 8 u).2 (by omega), dd_all u⟩, dd_val]
theorem dig_stands (o : List UInt8) (ho : ∀ x ∈ o, isOp x = true) (u : Nat) (hu : u ≤ 999999999) (n : Int) (s : ByteArray) (hs : s.data.toList = o ++ decDigits u) : standsB s n = cmpOp o n (u : Int) := by
  obtain ⟨h1, h2⟩ := dd_noOp u
  unfold standsB standsL
  rw [hs, List.takeWhile_append_of_pos ho, List.dropWhile_append_of_pos ho, h1, h2, dd_nine u hu, List.append_nil]
theorem bang_stands (u : Nat) (n : Int) (s : ByteArray) (hs : s.data.toList = 33 :: decDigits u) : standsB s n = false := by
  unfold standsB standsL
  rw [hs, List.dropWhile_cons_of_neg (by decide)]
  unfold dig9
  rw [if_neg (by rintro ⟨_, _, h⟩; rw [List.all_cons, Bool.and_eq_true] at h; exact absurd h.1 (by decide))]
theorem digits_end (K : Nat) (t : ByteArray) (ht : t.data.toList ≠ []) : agoraref01_Digits.l0 (K + 1) 0 t = some t := by
  unfold agoraref01_Digits.l0
  rw [ByteArray.toList_eq, if_neg ht, if_neg (by decide)]
theorem digits_step (K : Nat) (u : Nat) (hu : u ≤ 999999999) (t : ByteArray) (ht : t.size ≤ 4000000000) (h : t.data.toList = [] ∨ 0 < u) :
    agoraref01_Digits.l0 (K + 1) (u : Int) t = agoraref01_Digits.l0 K ((u / 10 : Nat) : Int) ⟨(UInt8.ofNat (48 + u % 10) :: t.data.toList).toArray⟩ := by
  have e1 : Int.tmod (u : Int) 10 = ((u % 10 : Nat) : Int) := by rw [Int.tmod_eq_emod_of_nonneg (by omega)]; omega
  have e2 : Int.tdiv (u : Int) 10 = ((u / 10 : Nat) : Int) := by rw [Int.tdiv_eq_ediv_of_nonneg (by omega)]; omega
  have e3 : wrap64 (48 + ((u % 10 : Nat) : Int)) % 256 = ((48 + u % 10 : Nat) : Int) := by unfold wrap64; clear e1 e2; omega
  have e4 : wrap64 ((u / 10 : Nat) : Int) = ((u / 10 : Nat) : Int) := by unfold wrap64; clear e1 e2 e3; omega
  have e5 : strOfNums [((48 + u % 10 : Nat) : Int)] ++ t = ⟨(UInt8.ofNat (48 + u % 10) :: t.data.toList).toArray⟩ := by
    refine ByteArray.ext (Array.toList_inj.1 ?_)
    rw [ByteArray.data_append, Array.toList_append, strOfNums_data]
    simp only [List.map_cons, List.map_nil, List.cons_append, List.nil_append, Int.toNat_natCast]
  have hz : ∀ v : Int, (strOfNums [v]).size + t.size ≤ 9223372036854775807 := fun v => by rw [Go.strOfNums_size]; simp; omega
  conv => lhs; unfold agoraref01_Digits.l0
  simp only [Option.bind_some]
  rw [e1, e2, e3, e4, e5, if_pos (hz _)]
  by_cases h1 : t.toList = ([] : List UInt8)
  · rw [if_pos h1]
  · rw [if_neg h1]
    have h0 : 0 < u := h.resolve_left (by rw [← ByteArray.toList_eq]; exact h1)
    rw [if_pos (show (u : Int) > 0 by omega)]
theorem digits_go : ∀ (f : Nat) (u : Nat), u ≤ f → u ≤ 999999999 → ∀ (t : ByteArray) (K : Nat), t.size + u ≤ 2000000000 → u + 1 < K → (t.data.toList = [] ∨ 0 < u) →
    agoraref01_Digits.l0 K (u : Int) t = some ⟨(decDigits u ++ t.data.toList).toArray⟩ := by
  intro f
  induction f with
  | zero =>
    intro u h1 hu t K hn hK ht
    obtain rfl : u = 0 := by omega
    obtain ⟨K, rfl⟩ : ∃ j, K = j + 1 + 1 := ⟨K - 2, by omega⟩
    rw [digits_step _ 0 hu t (by omega) ht, show ((0 / 10 : Nat) : Int) = 0 from rfl, digits_end _ _ (by simp), dd_small (by decide)]
    rfl
  | succ f ih =>
    intro u h1 hu t K hn hK ht
    obtain ⟨K, rfl⟩ : ∃ j, K = j + 1 + 1 := ⟨K - 2, by omega⟩
    rw [digits_step _ u hu t (by omega) ht]
    by_cases h9 : u < 10
    · rw [show ((u / 10 : Nat) : Int) = 0 by omega, digits_end _ _ (by simp), dd_small h9, show u % 10 = u by omega]
      rfl
    · have hz : (⟨(UInt8.ofNat (48 + u % 10) :: t.data.toList).toArray⟩ : ByteArray).size = t.size + 1 := by
        simp only [ByteArray.size, List.size_toArray, List.length_cons, Array.length_toList]
      rw [ih (u / 10) (by omega) (by omega) _ (K + 1) (by omega) (by omega) (.inr (by omega)), dd_big h9]
      simp
theorem digits_c (u : Nat) (hu : u ≤ 999999999) : ∃ K t, agoraref01_Digits.f K (u : Int) = some t ∧ t.data.toList = decDigits u := by
  refine ⟨u + 3, ⟨(decDigits u).toArray⟩, ?_, by simp⟩
  unfold agoraref01_Digits.f
  rw [if_neg (by omega), digits_go u u (Nat.le_refl _) hu ⟨#[]⟩ (u + 2) (show 0 + u ≤ _ by omega) (by omega) (.inl rfl)]
  simp
theorem dd_size (u : Nat) (hu : u ≤ 999999999) (t : ByteArray) (h : t.data.toList = decDigits u) : t.size ≤ 9 := by
  have h1 := (dd_len 8 u).2 (by omega)
  rw [← h] at h1
  simpa using h1
theorem seven (u : Nat) (hu : u ≤ 999999999) (n : Int) (t : ByteArray) (h : t.data.toList = decDigits u) :
    standsB (⟨#[60]⟩ ++ t) n = decide (n < u) ∧ standsB t n = decide (n = u) ∧ standsB (⟨#[61, 61]⟩ ++ t) n = decide (n = u) ∧ standsB (⟨#[62]⟩ ++ t) n = decide ((u : Int) < n) ∧ standsB (⟨#[60, 61]⟩ ++ t) n = decide (n ≤ u) ∧ standsB (⟨#[62, 61]⟩ ++ t) n = decide ((u : Int) ≤ n) ∧ standsB (⟨#[61]⟩ ++ t) n = false ∧ standsB (⟨#[33]⟩ ++ t) n = false := by
  have cat : ∀ l : List UInt8, ((⟨l.toArray⟩ : ByteArray) ++ t).data.toList = l ++ decDigits u := fun l => by
    rw [ByteArray.data_append, Array.toList_append, h]
  refine ⟨?_, ?_, ?_, ?_, ?_, ?_, ?_, ?_⟩
  · rw [dig_stands [60] (by decide) u hu n _ (cat [60])]; rfl
  · rw [dig_stands [] (by decide) u hu n t h]; rfl
  · rw [dig_stands [61, 61] (by decide) u hu n _ (cat [61, 61])]; rfl
  · rw [dig_stands [62] (by decide) u hu n _ (cat [62])]; rfl
  · rw [dig_stands [60, 61] (by decide) u hu n _ (cat [60, 61])]; rfl
  · rw [dig_stands [62, 61] (by decide) u hu n _ (cat [62, 61])]; rfl
  · rw [dig_stands [61] (by decide) u hu n _ (cat [61])]; rfl
  · exact bang_stands u n _ (cat [33])
end Go.Proofs.YtodhmbnfliajiaaDoor.Q
