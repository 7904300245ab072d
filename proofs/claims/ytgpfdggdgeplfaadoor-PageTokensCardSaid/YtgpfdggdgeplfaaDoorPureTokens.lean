/- agoraref01.Digits, agoraref28.Token, Parse: what they answer (the document's tokens are the program's). -/
import Derived.Test.YtgpfdggdgeplfaaDoorHandTok
import Derived.Test.YtgpfdggdgeplfaaDoorQx1
namespace Go.Proofs.YtgpfdggdgeplfaaDoor.Q
open Go.RowKit Go.Proofs.YtgpfdggdgeplfaaDoorW.PrintWords Go.Proofs.YtgpfdggdgeplfaaDoorW.PrintLast Go.Proofs.YtgpfdggdgeplfaaDoorW.PrintMore
open Go.Lib (decDigits itoa)

theorem w64t {i : Int} (h : -9223372036854775808 ≤ i) (h' : i ≤ 9223372036854775807) : wrap64 i = i := by unfold wrap64; omega
def bArr (l : List UInt8) : ByteArray := ⟨l.toArray⟩
theorem bArr_list (l : List UInt8) : (bArr l).data.toList = l := by simp [bArr]
theorem bArr_size (l : List UInt8) : (bArr l).size = l.length := by show l.toArray.size = _; simp
theorem bArr_append (a b : List UInt8) : bArr a ++ bArr b = bArr (a ++ b) := by
  apply ByteArray.ext; rw [ByteArray.data_append]; simp [bArr]
theorem digit_num (u : Nat) : strOfNums [(48 + ((u % 10 : Nat) : Int))] = bArr [UInt8.ofNat (48 + u % 10)] := by
  unfold strOfNums bArr
  congr 1
theorem digit_step (u : Nat) (hu : u ≤ 9223372036854775807) : (wrap64 (48 + (Int.tmod (u : Int) 10))) % 256 = 48 + ((u % 10 : Nat) : Int) ∧ wrap64 (Int.tdiv (u : Int) 10) = ((u / 10 : Nat) : Int) := by
  have h1 : Int.tmod (u : Int) 10 = ((u % 10 : Nat) : Int) := rfl
  have h2 : Int.tdiv (u : Int) 10 = ((u / 10 : Nat) : Int) := rfl
  rw [h1, h2, w64t (by omega) (by omega), w64t (by omega) (by omega)]
  constructor
  · omega
  · rfl
/-- the digits of a number that is not 0; none of 0 -/
def digs (u : Nat) : List UInt8 := if u = 0 then [] else decDigits u
theorem digs_step (u : Nat) (h : 0 < u) : digs (u / 10) ++ [UInt8.ofNat (48 + u % 10)] = digs u := by
  unfold digs
  by_cases hs : u < 10
  · rw [if_pos (by omega), if_neg (by omega), dd_small hs, show u % 10 = u by omega]; rfl
  · rw [if_neg (by omega), if_neg (by omega), dd_big hs]
theorem decDigits_step (u : Nat) : digs (u / 10) ++ [UInt8.ofNat (48 + u % 10)] = decDigits u := by
  by_cases h : 0 < u
  · rw [digs_step u h]; unfold digs; rw [if_neg (by omega)]
  · obtain rfl : u = 0 := by omega
    rw [dd_small (by omega)]; rfl
theorem digits_l0 : ∀ (f u : Nat) (acc : List UInt8) (K : Nat), u < 10 ^ f → u ≤ 9223372036854775807 → acc ≠ [] → acc.length ≤ 100000 - f → f ≤ 100 → f < K →
    agoraref01_Digits.l0 K (u : Int) (bArr acc) = some (bArr (digs u ++ acc))
  | f, u, acc, K, hu, hm, ha, hl, hf, hK => by
    obtain ⟨K, rfl⟩ : ∃ j, K = j + 1 := ⟨K - 1, by omega⟩
    rw [agoraref01_Digits.l0, if_neg (by rw [ByteArray.toList_eq, bArr_list]; exact ha)]
    by_cases h0 : u = 0
    · subst h0
      rw [if_neg (by decide)]
      unfold digs; rw [if_pos rfl]; rfl
    · have hs := digit_step u hm
      rw [if_pos (by omega), Option.bind_some, hs.1, hs.2, digit_num, bArr_append]
      cases f with
      | zero => simp at hu; omega
      | succ f =>
        have hsz : (bArr [UInt8.ofNat (48 + u % 10)]).size + (bArr acc).size ≤ 9223372036854775807 := by rw [bArr_size, bArr_size]; simp; omega
        rw [if_pos hsz, digits_l0 f (u / 10) ([UInt8.ofNat (48 + u % 10)] ++ acc) K (by rw [Nat.pow_succ] at hu; omega) (by omega) (by simp) (by simp; omega) (by omega) (by omega)]
        rw [← List.append_assoc, digs_step u (by omega)]
theorem digits_f (u : Nat) (hm : u ≤ 9223372036854775807) (K : Nat) (hK : 30 ≤ K) : agoraref01_Digits.f K (u : Int) = some (bArr (decDigits u)) := by
  obtain ⟨K, rfl⟩ : ∃ j, K = j + 2 := ⟨K - 2, by omega⟩
  have hs := digit_step u hm
  rw [agoraref01_Digits.f, if_neg (by omega), agoraref01_Digits.l0, if_pos (by rw [ByteArray.toList_eq]), Option.bind_some, hs.1, hs.2, digit_num]
  have h0 : (⟨#[]⟩ : ByteArray) = bArr [] := rfl
  rw [h0, bArr_append, if_pos (by rw [bArr_size, bArr_size]; simp)]
  rw [digits_l0 19 (u / 10) _ K (by have : (10 : Nat) ^ 19 = 10000000000000000000 := by decide
                                    omega) (by omega) (by simp) (by simp) (by omega) (by omega)]
  rw [List.append_nil, decDigits_step]
theorem dd_size (u : Nat) (hm : u ≤ 9223372036854775807) : (decDigits u).length ≤ 19 := by
  apply (dd_len 18 u).2
  have : (10 : Nat) ^ (18 + 1) = 10000000000000000000 := by decide
  omega
theorem ref_token_f (b : Bool) (n : Int) (hn : n ≤ 9223372036854775807) (K : Nat) (hK : 30 ≤ K) : agoraref28_Token.f K b n = some (tokB b n) := by
  unfold agoraref28_Token.f tokB tokL
  by_cases h : n < 0
  · rw [if_pos h, if_pos h]
  · obtain ⟨u, rfl⟩ := Int.eq_ofNat_of_zero_le (Int.not_lt.1 h)
    have hd := digits_f u (by omega) K hK
    have hsz := dd_size u (by omega)
    rw [if_neg h, if_neg h, Go.Lib.itoa_nonneg]
    have hz : 1 + (bArr (decDigits u)).size ≤ 9223372036854775807 := by rw [bArr_size]; omega
    cases b with
    | true => rw [if_pos rfl, hd, Option.bind_some, if_pos hz]; exact congrArg some (bArr_append [98] (decDigits u))
    | false => rw [if_neg (by decide), hd, Option.bind_some, if_pos hz]; exact congrArg some (bArr_append [102] (decDigits u))
/-- what both answer of a text -/
def parseB (s : ByteArray) : Bool × Int × Int := match tokN s.data.toList with | some (b, u) => (b, (u : Int), 0) | none => (false, 0, 1)
theorem bt_list (s : ByteArray) (i : Nat) (h : i < s.data.toList.length) : bt s (i : Int) = ((s.data.toList[i]'h).toNat : Int) := by
  have h1 : ((i : Int).toNat) < s.size := by
    have : s.data.toList.length = s.size := by simp
    rw [this] at h; simpa using h
  rw [← bt_at s (i : Int) h1]
  congr 2
theorem dval_all (l : List UInt8) (acc k : Nat) (h : l.all isD = true) (ha : acc < 10 ^ k) : dval acc l < 10 ^ (k + l.length) := by
  have := dval_lt l acc h
  rw [Nat.pow_add]
  exact Nat.lt_of_lt_of_le this (Nat.mul_le_mul_right _ ha)
theorem pow_step (acc i d : Nat) (ha : acc < 10 ^ i) (hd : d ≤ 9) : acc * 10 + d < 10 ^ (i + 1) := by rw [Nat.pow_succ]; omega
theorem pow_bound (acc i : Nat) (ha : acc < 10 ^ i) (hi : i ≤ 18) : acc < 1000000000000000000 := by
  have h : 10 ^ i ≤ 10 ^ 18 := Nat.pow_le_pow_right (by omega) hi
  have e : (10 : Nat) ^ 18 = 1000000000000000000 := by decide
  rw [e] at h
  exact Nat.lt_of_lt_of_le ha h
theorem pow_bound17 (acc i : Nat) (ha : acc < 10 ^ i) (hi : i ≤ 17) : acc < 100000000000000000 := by
  have h : 10 ^ i ≤ 10 ^ 17 := Nat.pow_le_pow_right (by omega) hi
  have e : (10 : Nat) ^ 17 = 100000000000000000 := by decide
  rw [e] at h
  exact Nat.lt_of_lt_of_le ha h
theorem parse_l0 (s : ByteArray) (c : UInt8) (r : List UInt8) (hl : s.data.toList = c :: r) (h19 : r.length ≤ 18) : ∀ (m i acc K : Nat), m = r.length - i → i ≤ r.length → acc < 10 ^ i → m + 40 ≤ K →
    agoraref28_Parse.l0 K s (acc : Int) ((i + 1 : Nat) : Int) = some (if (r.drop i).all isD = true ∧ (tokB (decide (c = 98)) ((dval acc (r.drop i) : Nat) : Int)).data.toList = c :: r then (decide (c = 98), ((dval acc (r.drop i) : Nat) : Int), 0) else (false, 0, 1))
  | 0, i, acc, K, hm, hi, ha, hK => by
    obtain ⟨K, rfl⟩ : ∃ j, K = j + 1 := ⟨K - 1, by omega⟩
    have hsz : s.size = r.length + 1 := by
      have : s.data.toList.length = s.size := by simp
      rw [hl] at this; simpa using this.symm
    have hab := pow_bound acc i ha (by omega)
    clear ha
    have h0 : 0 < s.data.toList.length := by rw [hl]; simp
    have hb0 : bt s 0 = (c.toNat : Int) := by
      have := bt_list s 0 h0
      rw [show ((0 : Nat) : Int) = 0 from rfl] at this
      rw [this]; simp [hl]
    have hbk : ((c.toNat : Int) == 98) = decide (c = 98) := by
      rw [Bool.eq_iff_iff]; simp only [beq_iff_eq, decide_eq_true_eq]
      constructor
      · intro h; exact UInt8.toNat_inj.1 (by have : (98 : UInt8).toNat = 98 := rfl
                                             omega)
      · intro h; rw [h]; rfl
    rw [List.drop_of_length_le (by omega), dval_nil, agoraref28_Parse.l0, if_neg (by omega), if_pos (by omega), hb0, hbk, ref_token_f _ _ (by omega) _ (by omega), Option.bind_some, ByteArray.toList_eq, ByteArray.toList_eq, hl]
    by_cases hc : (tokB (decide (c = 98)) (acc : Int)).data.toList = c :: r
    · rw [if_pos hc, if_pos ⟨rfl, hc⟩]
    · rw [if_neg hc, if_neg (fun h => hc h.2)]
  | m + 1, i, acc, K, hm, hi, ha, hK => by
    obtain ⟨K, rfl⟩ : ∃ j, K = j + 1 := ⟨K - 1, by omega⟩
    have hlt : i < r.length := by omega
    have q1 : m = r.length - (i + 1) := by omega
    have q2 : i + 1 ≤ r.length := by omega
    have q3 : m + 40 ≤ K := by omega
    have hsz : s.size = r.length + 1 := by
      have : s.data.toList.length = s.size := by simp
      rw [hl] at this; simpa using this.symm
    have hab := pow_bound17 acc i ha (by omega)
    have hst := fun d => pow_step acc i d ha
    clear ha
    have h1 : i + 1 < s.data.toList.length := by rw [hl]; simp; omega
    obtain ⟨b, hbq⟩ : ∃ b, b = r[i]'hlt := ⟨_, rfl⟩
    have hb : bt s ((i + 1 : Nat) : Int) = (b.toNat : Int) := by
      rw [bt_list s (i + 1) h1, hbq]; simp [hl]
    have hbl := b.toNat_lt
    rw [List.drop_eq_getElem_cons hlt, List.all_cons, dval_cons, ← hbq]
    clear hbq
    rw [agoraref28_Parse.l0, if_pos (by omega), if_pos (by omega), hb]
    have hno : ¬ isD b = true → ¬ ((isD b && (r.drop (i + 1)).all isD) = true ∧ (tokB (decide (c = 98)) ((dval (acc * 10 + (b.toNat - 48)) (r.drop (i + 1)) : Nat) : Int)).data.toList = c :: r) := fun h q => by
      have := q.1; rw [Bool.and_eq_true] at this; exact h this.1
    by_cases c1 : b.toNat < 48
    · rw [if_pos (by omega), if_neg (hno (by unfold isD; rw [decide_eq_true_eq]; omega))]
    · by_cases c2 : 57 < b.toNat
      · rw [if_neg (by omega), if_pos (by omega), if_neg (hno (by unfold isD; rw [decide_eq_true_eq]; omega))]
      · have hd : isD b = true := decide_eq_true (by omega)
        obtain ⟨acc', hacc⟩ : ∃ acc', acc' = acc * 10 + (b.toNat - 48) := ⟨_, rfl⟩
        have hle : b.toNat - 48 ≤ 9 := by omega
        have d1 : ¬ (b.toNat : Int) < 48 := by omega
        have d2 : ¬ (b.toNat : Int) > 57 := by omega
        have hs2 : 10 * (acc : Int) + ((b.toNat : Int) - 48) % 256 = (acc' : Int) := by omega
        have hs3 : ((i + 1 : Nat) : Int) + 1 = ((i + 1 + 1 : Nat) : Int) := by omega
        have b1 : -9223372036854775808 ≤ 10 * (acc : Int) ∧ 10 * (acc : Int) ≤ 9223372036854775807 := by omega
        have b2 : -9223372036854775808 ≤ (acc' : Int) ∧ (acc' : Int) ≤ 9223372036854775807 := by omega
        have b3 : -9223372036854775808 ≤ ((i + 1 + 1 : Nat) : Int) ∧ ((i + 1 + 1 : Nat) : Int) ≤ 9223372036854775807 := by omega
        have hw1 : wrap64 (10 * (acc : Int)) = 10 * (acc : Int) := w64t b1.1 b1.2
        have hw2 : wrap64 (10 * (acc : Int) + ((b.toNat : Int) - 48) % 256) = (acc' : Int) := by rw [hs2]; exact w64t b2.1 b2.2
        have hw3 : wrap64 (((i + 1 : Nat) : Int) + 1) = ((i + 1 + 1 : Nat) : Int) := by rw [hs3]; exact w64t b3.1 b3.2
        have hnew : acc' < 10 ^ (i + 1) := by rw [hacc]; exact hst _ hle
        rw [if_neg d1, if_neg d2, hw1, hw2, hw3, ← hacc, hd, Bool.true_and]
        exact parse_l0 s c r hl h19 m (i + 1) acc' K q1 q2 hnew q3
theorem ref_parse_f (s : ByteArray) (K : Nat) (hK : 100 ≤ K) : agoraref28_Parse.f K s = some (parseB s) := by
  obtain ⟨K, rfl⟩ : ∃ j, K = j + 1 := ⟨K - 1, by omega⟩
  have hbad : agoraref28_Parse.j0 (K + 1) s true = some (false, 0, 1) := by rw [agoraref28_Parse.j0, if_pos rfl]
  have hlen : s.data.toList.length = s.size := by simp
  unfold agoraref28_Parse.f parseB
  cases hl : s.data.toList with
  | nil =>
    rw [hl] at hlen; simp at hlen
    rw [if_pos (by omega), hbad]; rfl
  | cons c r =>
    rw [hl] at hlen; simp only [List.length_cons] at hlen
    by_cases h2 : s.size < 2
    · rw [if_pos (by omega), hbad]
      have : r = [] := List.length_eq_zero_iff.1 (by omega)
      rw [tokN_cons, if_neg (fun q => q.2.1 this)]
    · by_cases h19 : 19 < s.size
      · rw [if_neg (by omega), if_pos (by omega), hbad, tokN_cons, if_neg (fun q => by have := q.2.2.2.1; simp only [List.length_cons] at this; omega)]
      · have h0 : 0 < s.data.toList.length := by rw [hl]; simp
        have hb0 : bt s 0 = (c.toNat : Int) := by
          have := bt_list s 0 h0
          rw [show ((0 : Nat) : Int) = 0 from rfl] at this
          rw [this]; simp [hl]
        have h98 : (c.toNat : Int) = 98 ↔ c = 98 := by
          constructor
          · intro h; exact UInt8.toNat_inj.1 (by have : (98 : UInt8).toNat = 98 := rfl
                                                 omega)
          · intro h; rw [h]; rfl
        have h102 : (c.toNat : Int) = 102 ↔ c = 102 := by
          constructor
          · intro h; exact UInt8.toNat_inj.1 (by have : (102 : UInt8).toNat = 102 := rfl
                                                 omega)
          · intro h; rw [h]; rfl
        rw [if_neg (by omega), if_neg (by omega), if_pos (by omega), hb0]
        have hr : r ≠ [] := fun h => by rw [h] at hlen; simp at hlen; omega
        have good : (c = 98 ∨ c = 102) → agoraref28_Parse.j0 (K + 1) s false = some (match tokN (c :: r) with | some (b, u) => (b, (u : Int), 0) | none => (false, 0, 1)) := by
          intro hc
          rw [agoraref28_Parse.j0, if_neg (by decide)]
          have hq := parse_l0 s c r hl (by omega) r.length 0 0 K (by omega) (by omega) (by simp) (by omega)
          rw [List.drop_zero] at hq
          have hq' : agoraref28_Parse.l0 K s 0 1 = _ := hq
          rw [hq', tokN_cons]
          have htk : (tokB (decide (c = 98)) ((dval 0 r : Nat) : Int)).data.toList = c :: decDigits (dval 0 r) := by
            have : (tokB (decide (c = 98)) ((dval 0 r : Nat) : Int)).data.toList = tokL (decide (c = 98)) ((dval 0 r : Nat) : Int) := by simp [tokB]
            rw [this]; unfold tokL
            rw [if_neg (by omega), Go.Lib.itoa_nonneg]
            rcases hc with rfl | rfl
            · rfl
            · rfl
          rw [htk]
          by_cases hh : r.all isD = true ∧ decDigits (dval 0 r) = r
          · rw [if_pos ⟨hh.1, by rw [hh.2]⟩, if_pos ⟨hc, hr, hh.1, by simp only [List.length_cons]; omega, hh.2⟩]
          · rw [if_neg (fun q => hh ⟨q.1, by have := q.2; injection this⟩), if_neg (fun q => hh ⟨q.2.2.1, q.2.2.2.2⟩)]
        by_cases c1 : c = 98
        · rw [if_pos (h98.2 c1)]; exact good (Or.inl c1)
        · rw [if_neg (fun h => c1 (h98.1 h))]
          by_cases c2 : c = 102
          · rw [show ((c.toNat : Int) != 102) = false by simp [h102.2 c2]]; exact good (Or.inr c2)
          · rw [show ((c.toNat : Int) != 102) = true by simp; exact fun h => c2 (h102.1 h)]
            rw [hbad, tokN_cons, if_neg (fun q => q.1.elim c1 c2)]
end Go.Proofs.YtgpfdggdgeplfaaDoor.Q
