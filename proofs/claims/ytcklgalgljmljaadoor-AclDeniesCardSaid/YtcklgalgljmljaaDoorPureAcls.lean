/- PureAcls: a text of this claim's proof, as printed or written, without what the claim does not use. -/
import Derived.Test.YtcklgalgljmljaaDoorQx0
import Derived.Lib.DecodeN
import Derived.Laws.BitsLemmas
import Derived.Test.YtcklgalgljmljaaDoorQx11
import Derived.Test.YtcklgalgljmljaaDoorQx10
import Derived.Test.YtcklgalgljmljaaDoorQx5
import Derived.Test.YtcklgalgljmljaaDoorHandGlob
import Derived.Test.YtcklgalgljmljaaDoorQx12
import Derived.Test.YtcklgalgljmljaaDoorHandAcl3
import Derived.Lib.SplitLaws
import Derived.Test.YtcklgalgljmljaaDoorQx13
import Derived.Test.YtcklgalgljmljaaDoorHandAwake
import Derived.Test.YtcklgalgljmljaaDoorQx14
namespace Go.Proofs.YtcklgalgljmljaaDoor.Q
section
variable {α β : Type} (star : α → Bool) (ok : α → β → Bool)
def mtB : List α → List β → Bool
  | [], s => s.isEmpty
  | p :: ps, s => if star p then (List.range (s.length + 1)).any (fun j => mtB ps (s.drop j)) else
      match s with
      | [] => false
      | x :: t => ok p x && mtB ps t
theorem mtB_star {p : α} (ps : List α) (s : List β) (h : star p = true) : mtB star ok (p :: ps) s = true ↔ ∃ j, j ≤ s.length ∧ mtB star ok ps (s.drop j) = true := by
  simp only [mtB, h, if_true, List.any_eq_true, List.mem_range]
  exact ⟨fun ⟨j, h1, h2⟩ => ⟨j, by omega, h2⟩, fun ⟨j, h1, h2⟩ => ⟨j, by omega, h2⟩⟩
theorem mtB_one {p : α} (ps : List α) (x : β) (t : List β) (h : star p = false) : mtB star ok (p :: ps) (x :: t) = (ok p x && mtB star ok ps t) := by
  simp [mtB, h]
theorem mtB_none {p : α} (ps : List α) (h : star p = false) : mtB star ok (p :: ps) [] = false := by
  simp [mtB, h]
theorem mtB_nil (s : List β) : mtB star ok [] s = s.isEmpty := rfl
theorem mtB_append (p q : List α) : ∀ s : List β, mtB star ok (p ++ q) s = true ↔ ∃ j, j ≤ s.length ∧ mtB star ok p (s.take j) = true ∧ mtB star ok q (s.drop j) = true := by
  induction p with
  | nil =>
    intro s
    simp only [List.nil_append, mtB_nil]
    constructor
    · intro h; exact ⟨0, Nat.zero_le _, by simp, by simpa using h⟩
    · rintro ⟨j, hj, h1, h2⟩
      rw [List.isEmpty_iff, List.take_eq_nil_iff] at h1
      rcases h1 with rfl | rfl
      · simpa using h2
      · simpa using h2
  | cons a p ih =>
    intro s
    rw [List.cons_append]
    cases ha : star a with
    | true =>
      rw [mtB_star _ _ _ _ ha]
      constructor
      · rintro ⟨i, hi, h⟩
        obtain ⟨j, hj, h1, h2⟩ := (ih _).1 h
        rw [List.length_drop] at hj
        refine ⟨i + j, by omega, ?_, by rw [List.drop_drop] at h2; exact h2⟩
        rw [mtB_star _ _ _ _ ha]
        refine ⟨i, by rw [List.length_take]; omega, ?_⟩
        rw [List.drop_take, show i + j - i = j by omega]; exact h1
      · rintro ⟨j, hj, h1, h2⟩
        rw [mtB_star _ _ _ _ ha] at h1
        obtain ⟨i, hi, h1⟩ := h1
        rw [List.length_take] at hi
        refine ⟨i, by omega, (ih _).2 ⟨j - i, by rw [List.length_drop]; omega, ?_, ?_⟩⟩
        · rw [List.drop_take] at h1; exact h1
        · rw [List.drop_drop, show i + (j - i) = j by omega]; exact h2
    | false =>
      cases s with
      | nil =>
        rw [mtB_none _ _ _ ha]
        constructor
        · intro h; cases h
        · rintro ⟨j, hj, h1, h2⟩
          rw [List.take_nil, mtB_none _ _ _ ha] at h1; cases h1
      | cons x t =>
        rw [mtB_one _ _ _ _ _ ha, Bool.and_eq_true, ih]
        constructor
        · rintro ⟨h0, j, hj, h1, h2⟩
          refine ⟨j + 1, by simp; omega, ?_, h2⟩
          rw [List.take_succ_cons, mtB_one _ _ _ _ _ ha, h0, h1]; rfl
        · rintro ⟨j, hj, h1, h2⟩
          cases j with
          | zero => rw [List.take_zero, mtB_none _ _ _ ha] at h1; cases h1
          | succ j =>
            rw [List.take_succ_cons, mtB_one _ _ _ _ _ ha, Bool.and_eq_true] at h1
            exact ⟨h1.1, j, by simp at hj; omega, h1.2, h2⟩
theorem mtB_single_star {c : α} (h : star c = true) (s : List β) : mtB star ok [c] s = true := by
  rw [mtB_star _ _ _ _ h]; exact ⟨s.length, Nat.le_refl _, by simp [mtB_nil]⟩
theorem mtB_snoc_star (q : List α) {c : α} (h : star c = true) (s : List β) : mtB star ok (q ++ [c]) s = true ↔ ∃ j, j ≤ s.length ∧ mtB star ok q (s.take j) = true := by
  rw [mtB_append]
  exact ⟨fun ⟨j, h1, h2, _⟩ => ⟨j, h1, h2⟩, fun ⟨j, h1, h2⟩ => ⟨j, h1, h2, mtB_single_star star ok h _⟩⟩
theorem mtB_snoc_one (q : List α) {c : α} (h : star c = false) (s : List β) (x : β) : mtB star ok (q ++ [c]) (s ++ [x]) = (mtB star ok q s && ok c x) := by
  have key : mtB star ok (q ++ [c]) (s ++ [x]) = true ↔ (mtB star ok q s && ok c x) = true := by
    rw [mtB_append, Bool.and_eq_true]
    constructor
    · rintro ⟨j, hj, h1, h2⟩
      rcases Nat.lt_trichotomy j s.length with hlt | rfl | hgt
      · rw [List.drop_append_of_le_length (by omega)] at h2
        cases hd : s.drop j with
        | nil => rw [List.drop_eq_nil_iff] at hd; omega
        | cons y t =>
          rw [hd, List.cons_append, mtB_one _ _ _ _ _ h, mtB_nil] at h2
          cases t <;> simp at h2
      · rw [List.take_left] at h1
        rw [List.drop_left, mtB_one _ _ _ _ _ h, mtB_nil] at h2
        exact ⟨h1, by simpa using h2⟩
      · have : j = (s ++ [x]).length := by simp at hj ⊢; omega
        rw [this, List.drop_length, mtB_none _ _ _ h] at h2; cases h2
    · rintro ⟨h1, h2⟩
      refine ⟨s.length, by simp, by rw [List.take_left]; exact h1, ?_⟩
      rw [List.drop_left, mtB_one _ _ _ _ _ h, h2]; rfl
  cases h1 : mtB star ok (q ++ [c]) (s ++ [x]) <;> cases h2 : (mtB star ok q s && ok c x) <;> simp [h1, h2] at key ⊢
theorem mtB_snoc_none (q : List α) {c : α} (h : star c = false) : mtB star ok (q ++ [c]) [] = false := by
  cases hh : mtB star ok (q ++ [c]) [] with
  | false => rfl
  | true =>
    obtain ⟨j, _, _, h2⟩ := (mtB_append star ok q [c] []).1 hh
    rw [List.drop_nil, mtB_none _ _ _ h] at h2; cases h2
theorem mtB_plain (g q : List α) (hg : ∀ a ∈ g, star a = false) : ∀ s : List β, mtB star ok (g ++ q) s = true → g.length ≤ s.length ∧ mtB star ok q (s.drop g.length) = true := by
  induction g with
  | nil => intro s h; exact ⟨Nat.zero_le _, by simpa using h⟩
  | cons a g ih =>
    intro s h
    have ha := hg a (List.mem_cons_self ..)
    cases s with
    | nil => rw [List.cons_append, mtB_none _ _ _ ha] at h; cases h
    | cons x t =>
      rw [List.cons_append, mtB_one _ _ _ _ _ ha, Bool.and_eq_true] at h
      have := ih (fun b hb => hg b (List.mem_cons_of_mem _ hb)) t h.2
      exact ⟨by simp; omega, by simpa using this.2⟩
end
theorem mtB_map {α β α' β' : Type} (star : α → Bool) (ok : α → β → Bool) (star' : α' → Bool) (ok' : α' → β' → Bool) (e : α → α') (g : β → β') : ∀ (p : List α) (s : List β), (∀ a ∈ p, star' (e a) = star a) → (∀ a ∈ p, ∀ x ∈ s, ok' (e a) (g x) = ok a x) → mtB star' ok' (p.map e) (s.map g) = mtB star ok p s
  | [], s, _, _ => by cases s <;> rfl
  | a :: p, s, h1, h2 => by
    have ih := fun s' (hs : ∀ x ∈ s', x ∈ s) => mtB_map star ok star' ok' e g p s' (fun b hb => h1 b (List.mem_cons_of_mem _ hb)) (fun b hb x hx => h2 b (List.mem_cons_of_mem _ hb) x (hs x hx))
    have ha := h1 a (List.mem_cons_self ..)
    simp only [List.map_cons, mtB, ha, List.length_map]
    cases hst : star a with
    | true =>
      simp only [if_true]
      congr 1
      funext j
      rw [← List.map_drop]
      exact ih (s.drop j) (fun x hx => List.mem_of_mem_drop hx)
    | false =>
      cases s with
      | nil => rfl
      | cons x t =>
        simp only [List.map_cons]
        rw [h2 a (List.mem_cons_self ..) x (List.mem_cons_self ..), ih t (fun y hy => List.mem_cons_of_mem _ hy)]
        rfl
end Go.Proofs.YtcklgalgljmljaaDoor.Q
namespace Go.Proofs.YtcklgalgljmljaaDoor.Q
open Go.RowKit Go.Proofs.YtcklgalgljmljaaDoorW.PrintWords Go.Proofs.YtcklgalgljmljaaDoorW.PrintLast
theorem wraps_i64' (n : Int) (h₀ : 0 ≤ n) (h₁ : n < 2 ^ 40) : IntKind.i64.wrap n = n := by rw [IntKind.wrap_i64]; omega
theorem i64_and31 (x : Int) (h₀ : 0 ≤ x) (h₁ : x < 256) : Go.bits .and .i64 x 31 = x % 32 := bits_mask .i64 40 (by decide) wraps_i64' 5 (by decide) x h₀ (by omega)
theorem i64_and15 (x : Int) (h₀ : 0 ≤ x) (h₁ : x < 256) : Go.bits .and .i64 x 15 = x % 16 := bits_mask .i64 40 (by decide) wraps_i64' 4 (by decide) x h₀ (by omega)
theorem i64_and7 (x : Int) (h₀ : 0 ≤ x) (h₁ : x < 256) : Go.bits .and .i64 x 7 = x % 8 := bits_mask .i64 40 (by decide) wraps_i64' 3 (by decide) x h₀ (by omega)
theorem i64_or6 (x y : Int) (hx₀ : 0 ≤ x) (hx : x % 64 = 0) (hx₁ : x < 2 ^ 40) (h₀ : 0 ≤ y) (h₁ : y < 64) : Go.bits .or .i64 x y = x + y := bits_join .i64 40 (by decide) wraps_i64' 6 x y hx₀ hx hx₁ h₀ (by omega) (by omega)
set_option maxRecDepth 100000 in
theorem nat_and192 : ∀ b : Nat, b < 256 → ((b &&& 192 = 128) ↔ b / 64 = 2) := by decide
theorem u8_and192 (x : Int) (h₀ : 0 ≤ x) (h₁ : x < 256) : Go.bits .and .u8 x 192 = 128 ↔ x / 64 = 2 := by
  obtain ⟨a, rfl⟩ := Int.eq_ofNat_of_zero_le h₀
  have ha : a < 256 := by omega
  have h := (bits_nat .u8 8 (by decide) wraps_u8 a 192 ha (by decide)).1
  have h2 : Go.bits .and .u8 (a : Int) 192 = ((a &&& 192 : Nat) : Int) := h
  rw [h2]
  have := nat_and192 a ha
  omega
theorem letter_f (c : Int) : agoraref01_Letter.f c = some (decide (0 ≤ c ∧ c ≤ 1114111 ∧ (c < 55296 ∨ 57343 < c))) := by
  unfold agoraref01_Letter.f
  by_cases h1 : 0 ≤ c <;> by_cases h2 : c ≤ 1114111 <;> by_cases h3 : c < 55296 <;> simp [h1, h2, h3] <;> omega
theorem wrap_small (x : Int) (h₀ : -1000000000000000 ≤ x) (h₁ : x ≤ 1000000000000000) : wrap64 x = x := by unfold wrap64; omega
def refEnd (c least n : Int) : Int × Int := if c < least then (0, 0) else if (0 ≤ c ∧ c ≤ 1114111 ∧ (c < 55296 ∨ 57343 < c)) then (c, n) else (0, 0)
theorem rune_done (K : Nat) (s : ByteArray) (i c x7 least x9 : Int) (h : ¬ x9 ≤ x7) (h7 : 0 ≤ x7 ∧ x7 ≤ 10) : agoraref01_Rune.l0 (K + 1) s i c x7 least x9 = some (refEnd c least (x7 + 1)) := by
  have hw : wrap64 (x7 + 1) = x7 + 1 := wrap_small _ (by omega) (by omega)
  simp only [agoraref01_Rune.l0, letter_f, Option.bind_some, hw]
  rw [if_neg h]
  unfold refEnd
  by_cases h1 : c < least
  · rw [if_pos h1, if_pos h1]
  · rw [if_neg h1, if_neg h1]
    by_cases h2 : (0 ≤ c ∧ c ≤ 1114111 ∧ (c < 55296 ∨ 57343 < c))
    · rw [if_pos h2, if_pos (by simpa using h2)]
    · rw [if_neg h2, if_neg (by simpa using h2)]
theorem rune_step (K : Nat) (s : ByteArray) (i j : Nat) (c x7 least : Int) (hs : s.size ≤ 1000000000000) (hi : i < s.size) (hj : (j : Int) ≤ x7) (hj2 : j ≤ 10) (hc : 0 ≤ c ∧ c < 1000000000) :
    agoraref01_Rune.l0 (K + 1) s (i : Int) c x7 least (j : Int) = if s.size ≤ i + j then some (0, 0) else if bt s ((i + j : Nat) : Int) / 64 = 2 then agoraref01_Rune.l0 K s (i : Int) (c * 64 + bt s ((i + j : Nat) : Int) % 64) x7 least ((j + 1 : Nat) : Int) else some (0, 0) := by
  have hw : wrap64 ((i : Int) + (j : Int)) = ((i + j : Nat) : Int) := by rw [wrap_small _ (by omega) (by omega)]; omega
  have hw2 : wrap64 ((j : Int) + 1) = ((j + 1 : Nat) : Int) := by rw [wrap_small _ (by omega) (by omega)]; omega
  have hb := bt_range s ((i + j : Nat) : Int)
  have hm := u8_and63 (bt s ((i + j : Nat) : Int)) hb.1 (by omega)
  have hn := u8_and192 (bt s ((i + j : Nat) : Int)) hb.1 (by omega)
  have hw3 : wrap64 (c * 64) = c * 64 := wrap_small _ (by omega) (by omega)
  have hw4 : wrap64 (bt s ((i + j : Nat) : Int) % 64) = bt s ((i + j : Nat) : Int) % 64 := wrap_small _ (by omega) (by omega)
  have ho := i64_or6 (c * 64) (bt s ((i + j : Nat) : Int) % 64) (by omega) (by omega) (by omega) (by omega) (by omega)
  simp only [agoraref01_Rune.l0, hw, hw2, hm, hw3, hw4, ho]
  rw [if_pos hj]
  by_cases h1 : s.size ≤ i + j
  · rw [if_pos (by omega), if_pos h1]
  · rw [if_neg (by omega), if_neg h1, if_pos (by omega), if_pos (by omega)]
    by_cases h2 : bt s ((i + j : Nat) : Int) / 64 = 2
    · rw [if_pos (hn.2 h2), if_pos h2]
    · rw [if_neg (fun h => h2 (hn.1 h)), if_neg h2]
theorem bt_get (s : ByteArray) (i : Nat) (h : i < s.size) : bt s (i : Int) = ((s.get! i).toNat : Int) := by
  have h2 : ((i : Int).toNat) < s.size := by simpa using h
  rw [← bt_at s (i : Int) h2]
  have : s.get! i = s[i]'h := by
    show s.data[i]! = _
    rw [getElem!_pos s.data i (by simpa using h)]; rfl
  rw [this]; rfl
def contN (s : ByteArray) (i j : Nat) : Prop := i + j < s.size ∧ (s.get! (i + j)).toNat / 64 = 2
theorem rune_step' (K : Nat) (s : ByteArray) (i j : Nat) (c x7 least : Int) (hs : s.size ≤ 1000000000000) (hi : i < s.size) (hj : (j : Int) ≤ x7) (hj2 : j ≤ 10) (hc : 0 ≤ c ∧ c < 1000000000) (a : Int) (ha : a = (j : Int)) :
    (contN s i j → agoraref01_Rune.l0 (K + 1) s (i : Int) c x7 least a = agoraref01_Rune.l0 K s (i : Int) (c * 64 + (s.get! (i + j)).toNat % 64) x7 least (a + 1)) ∧ (¬ contN s i j → agoraref01_Rune.l0 (K + 1) s (i : Int) c x7 least a = some (0, 0)) := by
  subst ha
  have h := rune_step K s i j c x7 least hs hi hj hj2 hc
  refine ⟨fun hc' => ?_, fun hc' => ?_⟩
  · have hb := bt_get s (i + j) hc'.1
    rw [h, if_neg (by have := hc'.1; omega), if_pos (by rw [hb]; have := hc'.2; omega), hb]
    rfl
  · by_cases h1 : s.size ≤ i + j
    · rw [h, if_pos h1]
    · have hb := bt_get s (i + j) (by omega)
      rw [h, if_neg h1, if_neg (fun h2 => hc' ⟨by omega, by rw [hb] at h2; omega⟩)]
theorem rune_two (s : ByteArray) (i : Nat) (c : Int) (hs : s.size ≤ 1000000000000) (hi : i < s.size) (hc : 0 ≤ c ∧ c < 1000) :
    (contN s i 1 → agoraref01_Rune.l0 8 s (i : Int) c 1 128 1 = some (refEnd (c * 64 + (s.get! (i + 1)).toNat % 64) 128 2)) ∧ (¬ contN s i 1 → agoraref01_Rune.l0 8 s (i : Int) c 1 128 1 = some (0, 0)) := by
  have h1 := rune_step' 7 s i 1 c 1 128 hs hi (by decide) (by decide) ⟨hc.1, by omega⟩ 1 rfl
  refine ⟨fun a => ?_, h1.2⟩
  rw [h1.1 a]; exact rune_done 6 s i _ 1 128 2 (by decide) (by decide)
theorem rune_three (s : ByteArray) (i : Nat) (c : Int) (hs : s.size ≤ 1000000000000) (hi : i < s.size) (hc : 0 ≤ c ∧ c < 1000) :
    (contN s i 1 ∧ contN s i 2 → agoraref01_Rune.l0 7 s (i : Int) c 2 2048 1 = some (refEnd ((c * 64 + (s.get! (i + 1)).toNat % 64) * 64 + (s.get! (i + 2)).toNat % 64) 2048 3)) ∧ (¬ (contN s i 1 ∧ contN s i 2) → agoraref01_Rune.l0 7 s (i : Int) c 2 2048 1 = some (0, 0)) := by
  have h1 := rune_step' 6 s i 1 c 2 2048 hs hi (by decide) (by decide) ⟨hc.1, by omega⟩ 1 rfl
  have h2 := rune_step' 5 s i 2 (c * 64 + (s.get! (i + 1)).toNat % 64) 2 2048 hs hi (by decide) (by decide) ⟨by omega, by omega⟩ 2 rfl
  refine ⟨fun a => ?_, fun a => ?_⟩
  · rw [h1.1 a.1]; refine (h2.1 a.2).trans ?_; exact rune_done 4 s i _ 2 2048 3 (by decide) (by decide)
  · by_cases b : contN s i 1
    · rw [h1.1 b]; exact h2.2 (fun z => a ⟨b, z⟩)
    · exact h1.2 b
theorem rune_four (s : ByteArray) (i : Nat) (c : Int) (hs : s.size ≤ 1000000000000) (hi : i < s.size) (hc : 0 ≤ c ∧ c < 1000) :
    (contN s i 1 ∧ contN s i 2 ∧ contN s i 3 → agoraref01_Rune.l0 7 s (i : Int) c 3 65536 1 = some (refEnd (((c * 64 + (s.get! (i + 1)).toNat % 64) * 64 + (s.get! (i + 2)).toNat % 64) * 64 + (s.get! (i + 3)).toNat % 64) 65536 4)) ∧ (¬ (contN s i 1 ∧ contN s i 2 ∧ contN s i 3) → agoraref01_Rune.l0 7 s (i : Int) c 3 65536 1 = some (0, 0)) := by
  have h1 := rune_step' 6 s i 1 c 3 65536 hs hi (by decide) (by decide) ⟨hc.1, by omega⟩ 1 rfl
  have h2 := rune_step' 5 s i 2 (c * 64 + (s.get! (i + 1)).toNat % 64) 3 65536 hs hi (by decide) (by decide) ⟨by omega, by omega⟩ 2 rfl
  have h3 := rune_step' 4 s i 3 ((c * 64 + (s.get! (i + 1)).toNat % 64) * 64 + (s.get! (i + 2)).toNat % 64) 3 65536 hs hi (by decide) (by decide) ⟨by omega, by omega⟩ 3 rfl
  refine ⟨fun a => ?_, fun a => ?_⟩
  · rw [h1.1 a.1]; refine (h2.1 a.2.1).trans ?_; refine (h3.1 a.2.2).trans ?_; exact rune_done 3 s i _ 3 65536 4 (by decide) (by decide)
  · by_cases b : contN s i 1
    · rw [h1.1 b]
      by_cases b2 : contN s i 2
      · refine (h2.1 b2).trans ?_; exact h3.2 (fun z => a ⟨b, b2, z⟩)
      · exact h2.2 b2
    · exact h1.2 b
def Width (rn : Int) (d : Nat) : Prop := (rn = 0 ∧ d = 1) ∨ (rn = (d : Int) ∧ 1 ≤ d)
theorem rj0t (k : Nat) (s : ByteArray) (i c : Int) : agoraref01_Rune.j0 (k + 1) s i c true = agoraref01_Rune.j2 k s i (Go.bits .and .i64 c 31) 1 128 := by rw [agoraref01_Rune.j0, if_pos rfl]
theorem rj0f (k : Nat) (s : ByteArray) (i c : Int) : agoraref01_Rune.j0 (k + 1) s i c false = if c ≥ 224 then agoraref01_Rune.j1 k s i c (decide (c < 240)) else agoraref01_Rune.j1 k s i c false := by rw [agoraref01_Rune.j0, if_neg (by decide)]
theorem rj1t (k : Nat) (s : ByteArray) (i c : Int) : agoraref01_Rune.j1 (k + 1) s i c true = agoraref01_Rune.j2 k s i (Go.bits .and .i64 c 15) 2 2048 := by rw [agoraref01_Rune.j1, if_pos rfl]
theorem rj1f (k : Nat) (s : ByteArray) (i c : Int) : agoraref01_Rune.j1 (k + 1) s i c false = if c ≥ 240 then (if c < 248 then agoraref01_Rune.j2 k s i (Go.bits .and .i64 c 7) 3 65536 else some (0, 0)) else some (0, 0) := by rw [agoraref01_Rune.j1, if_neg (by decide)]
theorem rj2 (k : Nat) (s : ByteArray) (i c m l : Int) : agoraref01_Rune.j2 (k + 1) s i c m l = agoraref01_Rune.l0 k s i c m l 1 := by rw [agoraref01_Rune.j2]
set_option maxHeartbeats 4000000 in
theorem rune_f (s : ByteArray) (i : Nat) (hs : s.size ≤ 1000000000000) (hi : i < s.size) : ∃ rc rn, agoraref01_Rune.f 10 s (i : Int) = some (rc, rn) ∧ Width rn (Utf8.decode s i).2 := by
  have hb := bt_get s i hi
  have g0 := (s.get! i).toNat_lt; have g1 := (s.get! (i + 1)).toNat_lt; have g2 := (s.get! (i + 2)).toNat_lt; have g3 := (s.get! (i + 3)).toNat_lt
  have h2 := rune_two s i (((s.get! i).toNat : Int) % 32) hs hi (by omega)
  have h3 := rune_three s i (((s.get! i).toNat : Int) % 16) hs hi (by omega)
  have h4 := rune_four s i (((s.get! i).toNat : Int) % 8) hs hi (by omega)
  rw [Go.Lib.decode_at]
  simp only [contN] at h2 h3 h4
  unfold agoraref01_Rune.f
  rw [hb]
  generalize (s.get! i).toNat = b0 at *
  generalize (s.get! (i + 1)).toNat = b1 at *
  generalize (s.get! (i + 2)).toNat = b2 at *
  generalize (s.get! (i + 3)).toNat = b3 at *
  have hw : wrap64 (b0 : Int) = b0 := wrap_small _ (by omega) (by omega)
  have e1 := i64_and31 (b0 : Int) (by omega) (by omega)
  have e2 := i64_and15 (b0 : Int) (by omega) (by omega)
  have e3 := i64_and7 (b0 : Int) (by omega) (by omega)
  rw [if_pos (by omega), if_pos (by omega), hw]
  by_cases c0 : b0 < 128
  · rw [if_pos (by omega)]
    exact ⟨_, _, rfl, by unfold Go.Lib.decodeN; rw [if_pos c0]; exact Or.inr ⟨rfl, Nat.le_refl 1⟩⟩
  rw [if_neg (by omega)]
  by_cases c1 : b0 / 32 = 6
  · rw [if_pos (by omega)]
    rw [decide_eq_true (by omega), rj0t, rj2, e1]
    by_cases d : i + 1 < s.size ∧ b1 / 64 = 2
    · rw [h2.1 d]
      unfold Go.Lib.decodeN
      rw [if_neg c0, if_pos ⟨c1, by omega, d.2⟩]
      unfold refEnd
      repeat' split
      all_goals first | (exfalso; omega) | exact ⟨_, _, rfl, by simp [Width]⟩
    · rw [h2.2 d]
      unfold Go.Lib.decodeN
      rw [if_neg c0, if_neg (by omega), if_neg (by omega), if_neg (by omega)]
      exact ⟨_, _, rfl, by simp [Width]⟩
  by_cases c2 : b0 / 16 = 14
  · rw [if_pos (by omega)]
    rw [decide_eq_false (by omega), rj0f, if_pos (by omega), decide_eq_true (by omega), rj1t, rj2, e2]
    by_cases d : (i + 1 < s.size ∧ b1 / 64 = 2) ∧ (i + 2 < s.size ∧ b2 / 64 = 2)
    · rw [h3.1 d]
      unfold Go.Lib.decodeN
      rw [if_neg c0, if_neg (by omega), if_pos ⟨c2, by omega, by omega⟩]
      unfold refEnd
      repeat' split
      all_goals first | (exfalso; omega) | exact ⟨_, _, rfl, by simp [Width]⟩
    · rw [h3.2 d]
      unfold Go.Lib.decodeN
      rw [if_neg c0, if_neg (by omega), if_neg (by omega), if_neg (by omega)]
      exact ⟨_, _, rfl, by simp [Width]⟩
  by_cases c3 : b0 / 8 = 30
  · rw [if_pos (by omega)]
    rw [decide_eq_false (by omega), rj0f, if_pos (by omega), decide_eq_false (by omega), rj1f, if_pos (by omega), if_pos (by omega), rj2, e3]
    by_cases d : (i + 1 < s.size ∧ b1 / 64 = 2) ∧ (i + 2 < s.size ∧ b2 / 64 = 2) ∧ (i + 3 < s.size ∧ b3 / 64 = 2)
    · rw [h4.1 d]
      unfold Go.Lib.decodeN
      rw [if_neg c0, if_neg (by omega), if_neg (by omega), if_pos ⟨c3, by omega, by omega, by omega⟩]
      unfold refEnd
      repeat' split
      all_goals first | (exfalso; omega) | exact ⟨_, _, rfl, by simp [Width]⟩
    · rw [h4.2 d]
      unfold Go.Lib.decodeN
      rw [if_neg c0, if_neg (by omega), if_neg (by omega), if_neg (by omega)]
      exact ⟨_, _, rfl, by simp [Width]⟩
  · refine ⟨0, 0, ?_, ?_⟩
    · by_cases c4 : b0 < 192
      · rw [if_neg (by omega)]
        rw [rj0f, if_neg (by omega), rj1f, if_neg (by omega)]
      · rw [if_pos (by omega)]
        rw [decide_eq_false (by omega), rj0f, if_pos (by omega), decide_eq_false (by omega), rj1f, if_pos (by omega), if_neg (by omega)]
    · unfold Go.Lib.decodeN
      rw [if_neg c0, if_neg (by omega), if_neg (by omega), if_neg (by omega)]
      simp [Width]
end Go.Proofs.YtcklgalgljmljaaDoor.Q
namespace Go.Proofs.YtcklgalgljmljaaDoor.Q
open Go.RowKit Go.Proofs.YtcklgalgljmljaaDoorW.PrintWords Go.Proofs.YtcklgalgljmljaaDoorW.PrintLast
def rStar (x : ByteArray) : Bool := decide (x.toList = ([42] : List UInt8))
def rOk (p x : ByteArray) : Bool := decide (p.toList = ([63] : List UInt8)) || (p.toList == x.toList)
abbrev rM := mtB rStar rOk
def rD (p s : List ByteArray) (k j : Nat) : Bool := rM (p.take k) (s.take j)
def tab (n : Nat) (f : Nat → Bool) : List Bool := (List.range (n + 1)).map f
theorem tab_len (n : Nat) (f : Nat → Bool) : (tab n f).length = n + 1 := by simp [tab]
theorem tab_rd (n : Nat) (f : Nat → Bool) (j : Nat) (h : j ≤ n) : rdOf false (tab n f) (j : Int) = f j := by
  simp [rdOf, tab, show j < n + 1 by omega]
theorem tab_set (n : Nat) (f g : Nat → Bool) (j : Nat) (v : Bool) (hv : v = g j) (h : ∀ m, m ≤ n → m ≠ j → f m = g m) : (tab n f).set j v = tab n g := by
  apply List.ext_getElem
  · simp [tab]
  · intro m h1 h2
    rw [tab_len] at h2
    rw [List.getElem_set]
    split
    · rename_i e; subst e; simp [tab, hv]
    · rename_i e; simp only [tab, List.getElem_map, List.getElem_range]; exact h m (by omega) (fun h' => e h'.symm)
theorem tab_congr (n : Nat) (f g : Nat → Bool) (h : ∀ m, m ≤ n → f m = g m) : tab n f = tab n g := by
  unfold tab; exact List.map_congr_left (fun m hm => h m (by rw [List.mem_range] at hm; omega))
theorem rD_star (p s : List ByteArray) (k j : Nat) (hk : k < p.length) (hj : j ≤ s.length) (h : rStar p[k] = true) : rD p s (k + 1) j = (rD p s k j || (decide (0 < j) && rD p s (k + 1) (j - 1))) := by
  have key : ∀ m, m ≤ s.length → (rD p s (k + 1) m = true ↔ ∃ i, i ≤ m ∧ rD p s k i = true) := by
    intro m hm
    unfold rD
    rw [List.take_succ_eq_append_getElem hk]
    refine (mtB_snoc_star rStar rOk _ h _).trans ⟨fun ⟨i, h1, h2⟩ => ?_, fun ⟨i, h1, h2⟩ => ?_⟩
    · rw [List.length_take] at h1
      rw [List.take_take, Nat.min_eq_left (by omega)] at h2
      exact ⟨i, by omega, h2⟩
    · exact ⟨i, by rw [List.length_take]; omega, by rw [List.take_take, Nat.min_eq_left h1]; exact h2⟩
  have : rD p s (k + 1) j = true ↔ (rD p s k j || (decide (0 < j) && rD p s (k + 1) (j - 1))) = true := by
    rw [key j hj, Bool.or_eq_true, Bool.and_eq_true, decide_eq_true_eq]
    constructor
    · rintro ⟨i, h1, h2⟩
      rcases Nat.eq_or_lt_of_le h1 with rfl | hlt
      · exact Or.inl h2
      · exact Or.inr ⟨by omega, (key (j - 1) (by omega)).2 ⟨i, by omega, h2⟩⟩
    · rintro (h1 | ⟨h1, h2⟩)
      · exact ⟨j, Nat.le_refl _, h1⟩
      · obtain ⟨i, h3, h4⟩ := (key (j - 1) (by omega)).1 h2
        exact ⟨i, by omega, h4⟩
  cases h1 : rD p s (k + 1) j <;> cases h2 : (rD p s k j || (decide (0 < j) && rD p s (k + 1) (j - 1))) <;> simp [h1, h2] at this ⊢
theorem rD_one (p s : List ByteArray) (k j : Nat) (hk : k < p.length) (hj : j < s.length) (h : rStar p[k] = false) : rD p s (k + 1) (j + 1) = (rD p s k j && rOk p[k] s[j]) := by
  unfold rD
  rw [List.take_succ_eq_append_getElem hk, List.take_succ_eq_append_getElem hj]
  exact mtB_snoc_one rStar rOk _ h _ _
theorem rD_zero (p s : List ByteArray) (k : Nat) (hk : k < p.length) (h : rStar p[k] = false) : rD p s (k + 1) 0 = false := by
  unfold rD
  rw [List.take_succ_eq_append_getElem hk, List.take_zero]
  exact mtB_snoc_none rStar rOk _ h
def rowTo (p s : List ByteArray) (k i : Nat) : Nat → Bool := fun j => if j < i then rD p s (k + 1) j else false
theorem rowTo_set (p s : List ByteArray) (k i : Nat) (v : Bool) (hv : v = rD p s (k + 1) i) : (tab s.length (rowTo p s k i)).set i v = tab s.length (rowTo p s k (i + 1)) := by
  refine tab_set _ _ _ i v ?_ (fun m _ hne => ?_)
  · rw [hv]; simp [rowTo]
  · unfold rowTo
    by_cases h : m < i
    · rw [if_pos h, if_pos (by omega)]
    · rw [if_neg h, if_neg (by omega)]
theorem wrapn (i : Nat) (h : i ≤ 1000000000000) : wrap64 ((i : Int) + 1) = ((i + 1 : Nat) : Int) := by unfold wrap64; omega
theorem wrapp (i : Nat) (h : i ≤ 1000000000000) : wrap64 (((i + 1 : Nat) : Int) - 1) = (i : Int) := by unfold wrap64; omega
theorem rdS (l : List ByteArray) (i : Nat) (h : i < l.length) : rdOf ByteArray.empty l (i : Int) = l[i] := by simp [rdOf, h]
theorem l1_t (p s : List ByteArray) (hp : p.length ≤ 1000000000) (hs : s.length ≤ 1000000000) (k : Nat) (hk : k < p.length) (K : Nat) (r : Bool) (h : agoraref23_match.l0 K p s (tab s.length (rD p s (k + 1))) ((k + 1 : Nat) : Int) = some r) :
    ∀ (m i : Nat), m = s.length + 1 - i → i ≤ s.length + 1 → agoraref23_match.l1 (K + m + 1) p s (tab s.length (rD p s k)) (k : Int) (i : Int) (tab s.length (rowTo p s k i)) = some r
  | 0, i, hm, hi => by
    have : i = s.length + 1 := by omega
    subst this
    simp only [agoraref23_match.l1, wrapn k (by omega)]
    rw [if_neg (by omega)]
    rw [tab_congr s.length (rowTo p s k (s.length + 1)) (rD p s (k + 1)) (fun m hm => by simp [rowTo]; omega)]
    exact h
  | m + 1, i, hm, hi => by
    have hin : i ≤ s.length := by omega
    have ih := l1_t p s hp hs k hk K r h m (i + 1) (by omega) (by omega)
    have hl1 : ((tab s.length (rD p s k)).length : Int) = s.length + 1 := by rw [tab_len]; omega
    have hl2 : ((tab s.length (rowTo p s k i)).length : Int) = s.length + 1 := by rw [tab_len]; omega
    rw [show K + (m + 1) + 1 = (K + m + 1) + 1 by omega]
    generalize K + m + 1 = F at ih ⊢
    simp only [agoraref23_match.l1, hl1, hl2, rdS p k hk, wrapn i (by omega), tab_rd s.length (rD p s k) i hin]
    rw [if_pos (by omega), if_pos (by omega), if_pos (by omega)]
    have key : ∀ v, v = rD p s (k + 1) i → agoraref23_match.l1 F p s (tab s.length (rD p s k)) (k : Int) ((i + 1 : Nat) : Int) ((tab s.length (rowTo p s k i)).set (i : Int).toNat v) = some r := fun v hv => by
      rw [Int.toNat_natCast, rowTo_set p s k i v hv]; exact ih
    by_cases hstar : p[k].toList = ([42] : List UInt8)
    · have hst : rStar p[k] = true := by simp [rStar, hstar]
      have hd := rD_star p s k i hk hin hst
      rw [if_pos hstar, if_pos (by omega), if_pos (by omega)]
      cases h0 : rD p s k i with
      | true =>
        rw [if_pos rfl, if_pos (by omega)]
        exact key true (by rw [hd, h0]; rfl)
      | false =>
        rw [if_neg (by decide)]
        cases i with
        | zero =>
          rw [if_neg (by omega), if_pos (by omega)]
          exact key false (by rw [hd, h0]; rfl)
        | succ i =>
          rw [if_pos (by omega)]
          simp only [wrapp i (by omega), tab_rd s.length (rowTo p s k (i + 1)) i (by omega)]
          rw [if_pos (by omega), if_pos (by omega), if_pos (by omega)]
          exact key _ (by rw [hd, h0]; simp [rowTo])
    · have hst : rStar p[k] = false := by simp [rStar, hstar]
      rw [if_neg hstar]
      cases i with
      | zero =>
        rw [if_neg (by omega)]
        have e := rowTo_set p s k 0 false (rD_zero p s k hk hst).symm
        have e2 : (tab s.length (rowTo p s k 0)).set 0 false = tab s.length (rowTo p s k 0) := tab_set _ _ _ 0 false (by simp [rowTo]) (fun _ _ _ => rfl)
        rw [← e2, e]; exact ih
      | succ i =>
        have hd := rD_one p s k i hk (by omega) hst
        rw [if_pos (by omega)]
        simp only [wrapp i (by omega), tab_rd s.length (rD p s k) i (by omega), rdS s i (by omega)]
        rw [if_pos (by omega), if_pos (by omega)]
        cases h0 : rD p s k i with
        | true =>
          rw [if_pos rfl]
          by_cases hq : p[k].toList = ([63] : List UInt8)
          · rw [if_pos hq, if_pos (by omega), if_pos (by omega)]
            exact key true (by rw [hd, h0]; simp [rOk, hq])
          · rw [if_neg hq, if_pos (by omega), if_pos (by omega), if_pos (by omega)]
            exact key _ (by rw [hd, h0]; simp [rOk, hq])
        | false =>
          rw [if_neg (by decide), if_pos (by omega), if_pos (by omega)]
          exact key false (by rw [hd, h0]; rfl)
theorem l0_t (p s : List ByteArray) (hp : p.length ≤ 1000000000) (hs : s.length ≤ 1000000000) : ∀ (m k : Nat), m = p.length - k → k ≤ p.length → ∃ K, agoraref23_match.l0 K p s (tab s.length (rD p s k)) (k : Int) = some (rM p s)
  | 0, k, hm, hk => by
    have : k = p.length := by omega
    subst this
    refine ⟨1, ?_⟩
    have hl : ((tab s.length (rD p s p.length)).length : Int) = s.length + 1 := by rw [tab_len]; omega
    simp only [agoraref23_match.l0, hl, tab_rd s.length (rD p s p.length) s.length (Nat.le_refl _)]
    rw [if_neg (by omega), if_pos (by omega), if_pos (by omega)]
    simp [rD]
  | m + 1, k, hm, hk => by
    obtain ⟨K, h⟩ := l0_t p s hp hs m (k + 1) (by omega) (by omega)
    have hkl : k < p.length := by omega
    have hz := l1_t p s hp hs k hkl K _ h (s.length + 1) 0 (by omega) (by omega)
    refine ⟨K + (s.length + 1) + 1 + 1, ?_⟩
    generalize K + (s.length + 1) + 1 = F at hz ⊢
    have hw := wrapn s.length (by omega)
    have hrep : List.replicate (wrap64 ((s.length : Int) + 1) : Int).toNat false = tab s.length (rowTo p s k 0) := by
      rw [hw, Int.toNat_natCast]
      apply List.ext_getElem
      · simp [tab]
      · intro j h1 h2; simp [tab, rowTo]
    simp only [agoraref23_match.l0, hrep]
    rw [if_pos (by omega), if_pos (by rw [hw]; omega), if_pos (by rw [hw]; omega)]
    exact hz
theorem ref_match_f (p s : List ByteArray) (hp : p.length ≤ 1000000000) (hs : s.length ≤ 1000000000) : ∃ K, agoraref23_match.f K p s = some (rM p s) := by
  obtain ⟨K, h⟩ := l0_t p s hp hs p.length 0 (by omega) (by omega)
  refine ⟨K, ?_⟩
  have hw := wrapn s.length (by omega)
  have hrow : (List.replicate (wrap64 ((s.length : Int) + 1) : Int).toNat false).set (0 : Int).toNat true = tab s.length (rD p s 0) := by
    rw [hw, Int.toNat_natCast]
    apply List.ext_getElem
    · simp [tab]
    · intro j h1 h2
      rw [List.getElem_set]
      cases j with
      | zero => simp [tab, rD, mtB]
      | succ j =>
        have : j < s.length := by rw [tab_len] at h2; omega
        simp [tab, rD, mtB]
        intro he; subst he; simp at this
  unfold agoraref23_match.f
  rw [if_pos (by rw [hw]; omega), if_pos (by rw [hw]; omega), Option.bind_some, if_pos (by simp [hw]), hrow]
  exact h
end Go.Proofs.YtcklgalgljmljaaDoor.Q
namespace Go.Proofs.YtcklgalgljmljaaDoor.Q
open Go.RowKit Go.Proofs.YtcklgalgljmljaaDoorW.PrintWords Go.Proofs.YtcklgalgljmljaaDoorW.PrintLast
abbrev GLt := S62
def gStar (x : GLt) : Bool := !x.f1 && (x.f0 == 42)
def gOk (p x : GLt) : Bool := (!p.f1 && (p.f0 == 63)) || (p.f0 == x.f0 && (p.f1 == x.f1))
abbrev gM := mtB gStar gOk
theorem is_f (c : Int) (r : Bool) (x : Int) : glob_letter_is.f c r x = some (!r && (c == x)) := by
  unfold glob_letter_is.f
  cases r <;> simp
theorem rd_gl (l : List GLt) (i : Nat) (h : i < l.length) : rd_T62 l (i : Int) = l[i] := by simp [rd_T62, h]
theorem wrap_nat (i : Nat) (h : i ≤ 1000000000000) : wrap64 ((i : Int) + 1) = ((i + 1 : Nat) : Int) := by unfold wrap64; omega
theorem gM_nil (p : List GLt) : gM p [] = p.all gStar := by
  induction p with
  | nil => rfl
  | cons a p ih =>
    cases ha : gStar a with
    | true =>
      rw [List.all_cons, ha, Bool.true_and, ← ih]
      cases h : gM p [] with
      | true => exact (mtB_star gStar gOk p [] ha).2 ⟨0, Nat.le_refl _, h⟩
      | false =>
        cases h2 : gM (a :: p) [] with
        | false => rfl
        | true =>
          obtain ⟨j, _, h3⟩ := (mtB_star gStar gOk p [] ha).1 h2
          rw [List.drop_nil] at h3; exact absurd (h3.symm.trans h) (by decide)
    | false => rw [List.all_cons, ha, Bool.false_and]; exact mtB_none gStar gOk p ha
theorem l1_f (p : List GLt) (hp : p.length ≤ 1000000000000) : ∀ (m i k : Nat), m = p.length - i → i ≤ p.length → m < k → glob_match.l1 k p (i : Int) = some ((p.drop i).all gStar)
  | 0, i, k, hm, hi, hk => by
    obtain ⟨k, rfl⟩ : ∃ j, k = j + 1 := ⟨k - 1, by omega⟩
    have : i = p.length := by omega
    subst this
    simp [glob_match.l1]
  | m + 1, i, k, hm, hi, hk => by
    obtain ⟨k, rfl⟩ : ∃ j, k = j + 1 := ⟨k - 1, by omega⟩
    have hlt : i < p.length := by omega
    have ih := l1_f p hp m (i + 1) k (by omega) (by omega) (by omega)
    rw [List.drop_eq_getElem_cons hlt, List.all_cons]
    simp only [glob_match.l1, rd_gl p i hlt, is_f, Option.bind_some, wrap_nat i (by omega)]
    rw [if_pos (by omega), if_pos (by omega)]
    cases hs : gStar p[i] with
    | true =>
      have : (!p[i].f1 && (p[i].f0 == 42)) = true := hs
      rw [this, if_pos rfl, ih]; rfl
    | false =>
      have : (!p[i].f1 && (p[i].f0 == 42)) = false := hs
      rw [this, if_neg (by decide)]
      have hne : ((i : Int) == (p.length : Int)) = false := by simp; omega
      rw [hne]; rfl
def gAns (p s : List GLt) (i k : Nat) (st : Option Nat) (fr : Nat) : Prop :=
  match st with
  | none => gM (p.drop i) (s.drop k) = true
  | some a => gM (p.drop i) (s.drop k) = true ∨ ∃ j, fr < j ∧ j ≤ s.length ∧ gM (p.drop (a + 1)) (s.drop j) = true
def gInv (p s : List GLt) (i k : Nat) (st : Option Nat) (fr : Nat) : Prop :=
  i ≤ p.length ∧ k ≤ s.length ∧
  match st with
  | none => True
  | some a => a < i ∧ fr ≤ k ∧ k - fr = i - (a + 1) ∧ ∀ j, a < j → j < i → ∀ h : j < p.length, gStar p[j] = false
def gSt (st : Option Nat) : Int := match st with | none => -1 | some a => (a : Int)
theorem seg (p s : List GLt) (a i j : Nat) (h1 : a < i) (h2 : i ≤ p.length) (hs : ∀ m, a < m → m < i → ∀ h : m < p.length, gStar p[m] = false) (h : gM (p.drop (a + 1)) (s.drop j) = true) :
    i - (a + 1) ≤ s.length - j ∧ gM (p.drop i) (s.drop (j + (i - (a + 1)))) = true := by
  have he : p.drop (a + 1) = (p.drop (a + 1)).take (i - (a + 1)) ++ p.drop i := by
    have := (List.take_append_drop (i - (a + 1)) (p.drop (a + 1))).symm
    rwa [List.drop_drop, show a + 1 + (i - (a + 1)) = i by omega] at this
  rw [he] at h
  have hl : ((p.drop (a + 1)).take (i - (a + 1))).length = i - (a + 1) := by rw [List.length_take, List.length_drop]; omega
  have := mtB_plain gStar gOk _ (p.drop i) (fun x hx => by
    obtain ⟨m, hm, rfl⟩ := List.mem_iff_getElem.1 hx
    rw [hl] at hm
    rw [List.getElem_take, List.getElem_drop]
    exact hs (a + 1 + m) (by omega) (by omega) (by omega)) _ h
  rw [hl, List.length_drop, List.drop_drop] at this
  exact this
theorem gAns_end (p s : List GLt) (i : Nat) (st : Option Nat) (fr : Nat) (h : gInv p s i s.length st fr) : ((p.drop i).all gStar = true ↔ gAns p s i s.length st fr) := by
  obtain ⟨h1, h2, h3⟩ := h
  have e : gM (p.drop i) (s.drop s.length) = (p.drop i).all gStar := by rw [List.drop_length]; exact gM_nil _
  cases st with
  | none => simp only [gAns]; rw [e]
  | some a =>
    obtain ⟨h4, h5, h6, h7⟩ := h3
    simp only [gAns]
    rw [e]
    refine ⟨Or.inl, fun hh => hh.elim id (fun ⟨j, hj1, hj2, hj3⟩ => ?_)⟩
    have := (seg p s a i j h4 h1 h7 hj3).1
    omega
theorem gAns_star (p s : List GLt) (i k : Nat) (hi : i < p.length) (st : Option Nat) (fr : Nat) (h : gInv p s i k st fr) (hstar : gStar p[i] = true) : (gAns p s (i + 1) k (some i) k ↔ gAns p s i k st fr) := by
  obtain ⟨h1, h2, h3⟩ := h
  have hd : p.drop i = p[i] :: p.drop (i + 1) := List.drop_eq_getElem_cons hi
  have e : gM (p.drop i) (s.drop k) = true ↔ ∃ j, k ≤ j ∧ j ≤ s.length ∧ gM (p.drop (i + 1)) (s.drop j) = true := by
    rw [hd]
    refine (mtB_star gStar gOk _ _ hstar).trans ⟨fun ⟨j, hj, hh⟩ => ⟨k + j, by omega, by rw [List.length_drop] at hj; omega, by rw [List.drop_drop] at hh; exact hh⟩, fun ⟨j, hj1, hj2, hh⟩ => ⟨j - k, by rw [List.length_drop]; omega, by rw [List.drop_drop, show k + (j - k) = j by omega]; exact hh⟩⟩
  have e2 : gAns p s (i + 1) k (some i) k ↔ gM (p.drop i) (s.drop k) = true := by
    rw [e]
    simp only [gAns]
    constructor
    · rintro (hh | ⟨j, hj1, hj2, hh⟩)
      · exact ⟨k, Nat.le_refl _, h2, hh⟩
      · exact ⟨j, by omega, hj2, hh⟩
    · rintro ⟨j, hj1, hj2, hh⟩
      rcases Nat.eq_or_lt_of_le hj1 with rfl | hlt
      · exact Or.inl hh
      · exact Or.inr ⟨j, hlt, hj2, hh⟩
  rw [e2]
  cases st with
  | none => rfl
  | some a =>
    obtain ⟨h4, h5, h6, h7⟩ := h3
    simp only [gAns]
    refine ⟨Or.inl, fun hh => hh.elim id (fun ⟨j, hj1, hj2, hj3⟩ => ?_)⟩
    have hg := seg p s a i j h4 (by omega) h7 hj3
    have hg2 := hg.2
    rw [hd] at hg2
    obtain ⟨m, hm1, hm2⟩ := (mtB_star gStar gOk _ _ hstar).1 hg2
    rw [List.drop_drop] at hm2
    rw [List.length_drop] at hm1
    rw [e]
    exact ⟨j + (i - (a + 1)) + m, by omega, by omega, hm2⟩
theorem gAns_on (p s : List GLt) (i k : Nat) (hi : i < p.length) (hk : k < s.length) (st : Option Nat) (fr : Nat) (hn : gStar p[i] = false) (ho : gOk p[i] s[k] = true) : (gAns p s (i + 1) (k + 1) st fr ↔ gAns p s i k st fr) := by
  have e : gM (p.drop i) (s.drop k) = gM (p.drop (i + 1)) (s.drop (k + 1)) := by
    rw [List.drop_eq_getElem_cons hi, List.drop_eq_getElem_cons hk]
    exact (mtB_one gStar gOk _ _ _ hn).trans (by rw [ho, Bool.true_and])
  cases st with
  | none => simp only [gAns]; rw [e]
  | some a => simp only [gAns]; rw [e]
theorem gM_miss (p s : List GLt) (i k : Nat) (hk : k < s.length) (h : ∀ hi : i < p.length, gStar p[i] = false ∧ gOk p[i] s[k] = false) : gM (p.drop i) (s.drop k) = false := by
  rw [List.drop_eq_getElem_cons hk]
  by_cases hi : i < p.length
  · rw [List.drop_eq_getElem_cons hi]
    exact (mtB_one gStar gOk _ _ _ (h hi).1).trans (by rw [(h hi).2, Bool.false_and])
  · rw [List.drop_eq_nil_of_le (by omega)]; rfl
theorem gAns_back (p s : List GLt) (i k a fr : Nat) (hk : k < s.length) (hfr : fr ≤ k) (hm : gM (p.drop i) (s.drop k) = false) : (gAns p s (a + 1) (fr + 1) (some a) (fr + 1) ↔ gAns p s i k (some a) fr) := by
  simp only [gAns]
  rw [hm]
  constructor
  · rintro (hh | ⟨j, hj1, hj2, hh⟩)
    · exact Or.inr ⟨fr + 1, by omega, by omega, hh⟩
    · exact Or.inr ⟨j, by omega, hj2, hh⟩
  · rintro (hh | ⟨j, hj1, hj2, hh⟩)
    · cases hh
    · rcases Nat.eq_or_lt_of_le (Nat.succ_le_of_lt hj1) with rfl | hlt
      · exact Or.inl hh
      · exact Or.inr ⟨j, hlt, hj2, hh⟩
def gStN (st : Option Nat) : Nat := match st with | none => 0 | some a => a + 1
theorem l0_f (p s : List GLt) (hp : p.length ≤ 1000000000000) (hs : s.length ≤ 1000000000000) (i k : Nat) (st : Option Nat) (fr : Nat) (h : gInv p s i k st fr) (hf : fr ≤ k) :
    ∃ K r, glob_match.l0 K p s (i : Int) (k : Int) (gSt st) (fr : Int) = some r ∧ (r = true ↔ gAns p s i k st fr) := by
  by_cases hk : k < s.length
  · by_cases hst : ∃ hi : i < p.length, gStar p[i] = true
    ·
      obtain ⟨hi, hstar⟩ := hst
      have hinv : gInv p s (i + 1) k (some i) k := ⟨by omega, h.2.1, by omega, Nat.le_refl _, by omega, fun j h1 h2 => by omega⟩
      have hgi : gStN st ≤ i := by
        cases st with
        | none => exact Nat.zero_le _
        | some a => have := h.2.2; simp only [gStN]; have h4 : a < i := this.1; omega
      obtain ⟨K, r, hr, ha⟩ := l0_f p s hp hs (i + 1) k (some i) k hinv (Nat.le_refl _)
      refine ⟨K + 2, r, ?_, ha.trans (gAns_star p s i k hi st fr h hstar)⟩
      have hb : (!p[i].f1 && (p[i].f0 == 42)) = true := hstar
      have e : glob_match.l0 (K + 2) p s (i : Int) (k : Int) (gSt st) (fr : Int) = glob_match.j1 (K + 1) p s (i : Int) (k : Int) (gSt st) (fr : Int) true := by
        simp only [glob_match.l0, rd_gl p i hi, is_f, Option.bind_some]
        rw [if_pos (by omega), if_pos (by omega), if_pos (by omega), hb]
      rw [e]
      simp only [glob_match.j1, wrap_nat i (by omega)]
      simp only [if_true]
      exact hr
    · have hns : ∀ hi : i < p.length, gStar p[i] = false := fun hi => by
        cases hh : gStar p[i] with
        | false => rfl
        | true => exact absurd ⟨hi, hh⟩ hst
      by_cases hok : ∃ hi : i < p.length, gOk p[i] s[k] = true
      ·
        obtain ⟨hi, ho⟩ := hok
        have hinv : gInv p s (i + 1) (k + 1) st fr := by
          refine ⟨by omega, by omega, ?_⟩
          cases st with
          | none => trivial
          | some a =>
            obtain ⟨h4, h5, h6, h7⟩ := h.2.2
            refine ⟨by omega, by omega, by omega, fun j h1 h2 hj => ?_⟩
            by_cases hji : j = i
            · subst hji; exact hns hi
            · exact h7 j h1 (by omega) hj
        obtain ⟨K, r, hr, ha⟩ := l0_f p s hp hs (i + 1) (k + 1) st fr hinv (by omega)
        refine ⟨K + 3, r, ?_, ha.trans (gAns_on p s i k hi hk st fr (hns hi) ho)⟩
        have hb : (!p[i].f1 && (p[i].f0 == 42)) = false := hns hi
        have hw1 := wrap_nat i (by omega)
        have hw2 := wrap_nat k (by omega)
        have e : glob_match.l0 (K + 3) p s (i : Int) (k : Int) (gSt st) (fr : Int) = glob_match.j2 (K + 1) p s (i : Int) (k : Int) (gSt st) (fr : Int) true := by
          simp only [glob_match.l0, rd_gl p i hi, is_f, Option.bind_some]
          rw [if_pos (by omega), if_pos (by omega), if_pos (by omega), hb]
          simp only [glob_match.j1, rd_gl p i hi, rd_gl s k hk, is_f, Option.bind_some]
          rw [if_neg (by decide), if_pos (by omega), if_pos (by omega)]
          cases hq : (!p[i].f1 && (p[i].f0 == 63)) with
          | true => simp
          | false =>
            have : (p[i].f0 == s[k].f0 && (p[i].f1 == s[k].f1)) = true := by
              have h0 : ((!p[i].f1 && (p[i].f0 == 63)) || (p[i].f0 == s[k].f0 && (p[i].f1 == s[k].f1))) = true := ho
              rw [hq, Bool.false_or] at h0; exact h0
            rw [if_neg (by decide), if_pos (by omega), if_pos (by omega), this]
        rw [e]
        simp only [glob_match.j2, hw1, hw2, if_true]
        exact hr
      ·
        have hno : ∀ hi : i < p.length, gOk p[i] s[k] = false := fun hi => by
          cases hh : gOk p[i] s[k] with
          | false => rfl
          | true => exact absurd ⟨hi, hh⟩ hok
        have hmiss := gM_miss p s i k hk (fun hi => ⟨hns hi, hno hi⟩)
        have e : ∀ K, glob_match.l0 (K + 3) p s (i : Int) (k : Int) (gSt st) (fr : Int) = glob_match.j2 (K + 1) p s (i : Int) (k : Int) (gSt st) (fr : Int) false := by
          intro K
          by_cases hi : i < p.length
          · have hb : (!p[i].f1 && (p[i].f0 == 42)) = false := hns hi
            have h0 : ((!p[i].f1 && (p[i].f0 == 63)) || (p[i].f0 == s[k].f0 && (p[i].f1 == s[k].f1))) = false := hno hi
            rw [Bool.or_eq_false_iff] at h0
            simp only [glob_match.l0, rd_gl p i hi, is_f, Option.bind_some]
            rw [if_pos (by omega), if_pos (by omega), if_pos (by omega), hb]
            simp only [glob_match.j1, rd_gl p i hi, rd_gl s k hk, is_f, Option.bind_some]
            rw [if_neg (by decide), if_pos (by omega), if_pos (by omega), h0.1, if_neg (by decide), if_pos (by omega), if_pos (by omega), h0.2]
          · simp only [glob_match.l0]
            rw [if_pos (by omega), if_neg (by omega)]
            simp only [glob_match.j1]
            rw [if_neg (by decide), if_neg (by omega)]
        cases hst' : st with
        | none =>
          subst hst'
          refine ⟨3, false, ?_, by simp only [gAns]; rw [hmiss]⟩
          rw [e 0]
          simp [glob_match.j2, gSt]
        | some a =>
          subst hst'
          obtain ⟨h4, h5, h6, h7⟩ := h.2.2
          have hinv : gInv p s (a + 1) (fr + 1) (some a) (fr + 1) := ⟨by have := h.1; omega, by omega, by omega, Nat.le_refl _, by omega, fun j h1 h2 => by omega⟩
          obtain ⟨K, r, hr, ha⟩ := l0_f p s hp hs (a + 1) (fr + 1) (some a) (fr + 1) hinv (Nat.le_refl _)
          refine ⟨K + 3, r, ?_, ha.trans (gAns_back p s i k a fr hk h5 hmiss)⟩
          rw [e K]
          have hw1 := wrap_nat a (by have := h.1; omega)
          have hw2 := wrap_nat fr (by omega)
          simp only [glob_match.j2, gSt, hw1, hw2]
          rw [if_neg (by decide), if_neg (by omega)]
          exact hr
  · have hke : k = s.length := by have := h.2.1; omega
    subst hke
    refine ⟨p.length - i + 1 + 1, (p.drop i).all gStar, ?_, gAns_end p s i st fr h⟩
    simp only [glob_match.l0]
    rw [if_neg (by omega)]
    exact l1_f p hp (p.length - i) i _ rfl h.1 (by omega)
termination_by (p.length - gStN st, s.length - fr, s.length - k)
decreasing_by
  · apply Prod.Lex.left; show p.length - (i + 1) < p.length - gStN st; omega
  · apply Prod.Lex.right; apply Prod.Lex.right; omega
  · simp only [*]; apply Prod.Lex.right; apply Prod.Lex.left; omega
theorem glob_match_f (p s : List GLt) (hp : p.length ≤ 1000000000000) (hs : s.length ≤ 1000000000000) : ∃ K, glob_match.f K p s = some (gM p s) := by
  obtain ⟨K, r, hr, ha⟩ := l0_f p s hp hs 0 0 none 0 ⟨Nat.zero_le _, Nat.zero_le _, trivial⟩ (Nat.le_refl _)
  refine ⟨K, ?_⟩
  have e : r = gM p s := by
    have h1 : r = true ↔ gM p s = true := by simpa [gAns] using ha
    cases r <;> cases h2 : gM p s <;> simp [h2] at h1 ⊢
  unfold glob_match.f
  rw [← e]
  exact hr
end Go.Proofs.YtcklgalgljmljaaDoor.Q
namespace Go.Proofs.YtcklgalgljmljaaDoor.Q
open Go.RowKit Go.Proofs.YtcklgalgljmljaaDoorW.PrintWords Go.Proofs.YtcklgalgljmljaaDoorW.PrintLast
def nb (b : ByteArray) : List Nat := b.toList.map UInt8.toNat
def Sh (g : GL) (l : List Nat) : Prop :=
  (∃ a : Nat, a < 128 ∧ g = ⟨(a : Int), false⟩ ∧ l = [a]) ∨
  (∃ a : Nat, 128 ≤ a ∧ a < 256 ∧ g = ⟨(a : Int), true⟩ ∧ l = [a]) ∨
  (∃ a b : Nat, a / 32 = 6 ∧ b / 64 = 2 ∧ 128 ≤ a % 32 * 64 + b % 64 ∧ g = ⟨((a % 32 * 64 + b % 64 : Nat) : Int), false⟩ ∧ l = [a, b]) ∨
  (∃ a b c : Nat, a / 16 = 14 ∧ b / 64 = 2 ∧ c / 64 = 2 ∧ 2048 ≤ a % 16 * 4096 + b % 64 * 64 + c % 64 ∧ g = ⟨((a % 16 * 4096 + b % 64 * 64 + c % 64 : Nat) : Int), false⟩ ∧ l = [a, b, c]) ∨
  (∃ a b c d : Nat, a / 8 = 30 ∧ b / 64 = 2 ∧ c / 64 = 2 ∧ d / 64 = 2 ∧ 65536 ≤ a % 8 * 262144 + b % 64 * 4096 + c % 64 * 64 + d % 64 ∧ g = ⟨((a % 8 * 262144 + b % 64 * 4096 + c % 64 * 64 + d % 64 : Nat) : Int), false⟩ ∧ l = [a, b, c, d])
theorem gl_ext (a c : Int) (b d : Bool) : ((⟨a, b⟩ : GL) = ⟨c, d⟩) ↔ (a = c ∧ b = d) := by
  constructor
  · intro h; injection h with h1 h2; exact ⟨h1, h2⟩
  · rintro ⟨rfl, rfl⟩; rfl
set_option maxHeartbeats 4000000 in
theorem sh_eq {g g' : GL} {l l' : List Nat} (h : Sh g l) (h' : Sh g' l') : g = g' ↔ l = l' := by
  rcases h with ⟨a, h1, rfl, rfl⟩ | ⟨a, h1, h2, rfl, rfl⟩ | ⟨a, b, h1, h2, h3, rfl, rfl⟩ | ⟨a, b, c, h1, h2, h3, h4, rfl, rfl⟩ | ⟨a, b, c, d, h1, h2, h3, h4, h5, rfl, rfl⟩ <;>
  rcases h' with ⟨a', i1, rfl, rfl⟩ | ⟨a', i1, i2, rfl, rfl⟩ | ⟨a', b', i1, i2, i3, rfl, rfl⟩ | ⟨a', b', c', i1, i2, i3, i4, rfl, rfl⟩ | ⟨a', b', c', d', i1, i2, i3, i4, i5, rfl, rfl⟩ <;>
  simp only [gl_ext, List.cons.injEq, and_true, reduceCtorEq, and_false, iff_false, Int.natCast_inj, Bool.false_eq_true, Bool.true_eq_false, List.ne_cons_self, false_iff] <;> first | done | (exact not_false) | omega | (intro h; omega) | (exact Iff.rfl) | (constructor <;> intro h <;> omega)
theorem sh_star {g : GL} {l : List Nat} (h : Sh g l) : gStar g = decide (l = [42]) := by
  rcases h with ⟨a, h1, rfl, rfl⟩ | ⟨a, h1, h2, rfl, rfl⟩ | ⟨a, b, h1, h2, h3, rfl, rfl⟩ | ⟨a, b, c, h1, h2, h3, h4, rfl, rfl⟩ | ⟨a, b, c, d, h1, h2, h3, h4, h5, rfl, rfl⟩ <;> rw [Bool.eq_iff_iff] <;> simp [gStar] <;> omega
theorem sh_ask {g : GL} {l : List Nat} (h : Sh g l) : (!g.f1 && (g.f0 == 63)) = decide (l = [63]) := by
  rcases h with ⟨a, h1, rfl, rfl⟩ | ⟨a, h1, h2, rfl, rfl⟩ | ⟨a, b, h1, h2, h3, rfl, rfl⟩ | ⟨a, b, c, h1, h2, h3, h4, rfl, rfl⟩ | ⟨a, b, c, d, h1, h2, h3, h4, h5, rfl, rfl⟩ <;> rw [Bool.eq_iff_iff] <;> simp <;> omega
theorem nb_inj {a b : ByteArray} : nb a = nb b ↔ a.toList = b.toList := by
  unfold nb
  constructor
  · intro h
    exact List.map_inj_right (f := UInt8.toNat) (fun x y => UInt8.toNat_inj.1) |>.1 h
  · intro h; rw [h]
theorem nb_one (b : ByteArray) (x : UInt8) : nb b = [x.toNat] ↔ b.toList = [x] := by
  unfold nb
  constructor
  · intro h
    exact List.map_inj_right (f := UInt8.toNat) (fun x y => UInt8.toNat_inj.1) |>.1 (h.trans rfl)
  · intro h; rw [h]; rfl
theorem sh_rStar {g : GL} {b : ByteArray} (h : Sh g (nb b)) : rStar b = gStar g := by
  rw [sh_star h]; unfold rStar; exact decide_eq_decide.2 (nb_one b 42).symm
theorem sh_rOk {g g' : GL} {b b' : ByteArray} (h : Sh g (nb b)) (h' : Sh g' (nb b')) : rOk b b' = gOk g g' := by
  unfold rOk gOk
  rw [sh_ask h]
  have e1 : decide (b.toList = ([63] : List UInt8)) = decide (nb b = [63]) := decide_eq_decide.2 (nb_one b 63).symm
  rw [e1]
  congr 1
  rw [Bool.eq_iff_iff]
  have e2 := sh_eq h h'
  rw [nb_inj] at e2
  rw [beq_iff_eq, ← e2]
  rcases g with ⟨g0, g1⟩; rcases g' with ⟨i0, i1⟩
  rw [gl_ext]; simp
theorem nb_extract (s : ByteArray) (i w : Nat) (h : i + w ≤ s.size) : nb (s.extract i (i + w)) = (List.range w).map fun k => (s.get! (i + k)).toNat := by
  unfold nb
  rw [ByteArray.toList_eq]
  apply List.ext_getElem
  · simp; have : s.data.size = s.size := rfl; omega
  · intro k h1 h2
    simp only [List.length_map, List.length_range] at h2
    have hk : i + k < s.data.size := by have : s.data.size = s.size := rfl; omega
    simp only [List.getElem_map, List.getElem_range, Array.getElem_toList, ByteArray.data_extract, Array.getElem_extract]
    congr 1
    show _ = s.data[i + k]!
    rw [getElem!_pos s.data (i + k) hk]
theorem decode_width (s : ByteArray) (i : Nat) (h : i < s.size) : 1 ≤ (Utf8.decode s i).2 ∧ i + (Utf8.decode s i).2 ≤ s.size := by
  rw [Go.Lib.decode_at]
  generalize (s.get! i).toNat = b0
  generalize (s.get! (i + 1)).toNat = b1
  generalize (s.get! (i + 2)).toNat = b2
  generalize (s.get! (i + 3)).toNat = b3
  unfold Go.Lib.decodeN
  repeat' split
  all_goals (simp only; omega)
def gl_of (d : Nat × Nat) (b : Nat) : GL := if d.1 = 65533 ∧ d.2 = 1 then ⟨(b : Int), true⟩ else ⟨(d.1 : Int), false⟩
theorem glet_of (s : ByteArray) (i : Nat) (h : i < s.size) : glet s i = gl_of (Utf8.decode s i) (s.get! i).toNat := by
  unfold glet gl_of; rw [bt_get s i h]
set_option maxHeartbeats 4000000 in
theorem sh_decode (n b0 b1 b2 b3 : Nat) (h0 : b0 < 256) (d : Nat × Nat) (hd : d = Go.Lib.decodeN n b0 b1 b2 b3) : Sh (gl_of d b0) ([b0, b1, b2, b3].take d.2) := by
  have bad : ∀ d : Nat × Nat, 128 ≤ b0 → d = (65533, 1) → Sh (gl_of d b0) ([b0, b1, b2, b3].take d.2) := by
    rintro d hb rfl; exact Or.inr (Or.inl ⟨b0, hb, h0, rfl, rfl⟩)
  by_cases c0 : b0 < 128
  · have e : d = (b0, 1) := by rw [hd]; unfold Go.Lib.decodeN; rw [if_pos c0]
    subst e
    refine Or.inl ⟨b0, c0, ?_, rfl⟩
    unfold gl_of; rw [if_neg (by simp only; omega)]
  · unfold Go.Lib.decodeN at hd
    rw [if_neg c0] at hd
    split at hd
    · next q =>
      split at hd
      · next q2 =>
        subst hd
        refine Or.inr (Or.inr (Or.inl ⟨b0, b1, q.1, q.2.2, q2, ?_, rfl⟩))
        unfold gl_of; rw [if_neg (by simp only; omega)]
      · exact bad d (by omega) hd
    · split at hd
      · next q =>
        split at hd
        · next q2 =>
          subst hd
          refine Or.inr (Or.inr (Or.inr (Or.inl ⟨b0, b1, b2, q.1, q.2.1.2, q.2.2.2, q2.1, ?_, rfl⟩)))
          unfold gl_of; rw [if_neg (by simp only; omega)]
        · exact bad d (by omega) hd
      · split at hd
        · next q =>
          split at hd
          · next q2 =>
            subst hd
            refine Or.inr (Or.inr (Or.inr (Or.inr ⟨b0, b1, b2, b3, q.1, q.2.1.2, q.2.2.1.2, q.2.2.2.2, q2.1, ?_, rfl⟩)))
            unfold gl_of; rw [if_neg (by simp only; omega)]
          · exact bad d (by omega) hd
        · exact bad d (by omega) hd
theorem sh_at (s : ByteArray) (i : Nat) (h : i < s.size) : Sh (glet s i) (nb (s.extract i (i + (Utf8.decode s i).2))) := by
  have hw := decode_width s i h
  have h4 : (Utf8.decode s i).2 ≤ 4 := by
    rw [Go.Lib.decode_at]; unfold Go.Lib.decodeN
    repeat' split
    all_goals (simp only; omega)
  rw [glet_of s i h, nb_extract s i _ hw.2]
  have e : ((List.range (Utf8.decode s i).2).map fun k => (s.get! (i + k)).toNat) = [(s.get! i).toNat, (s.get! (i + 1)).toNat, (s.get! (i + 2)).toNat, (s.get! (i + 3)).toNat].take (Utf8.decode s i).2 := by
    generalize (Utf8.decode s i).2 = w at *
    rcases w with _ | _ | _ | _ | _ | w
    · rfl
    · rfl
    · rfl
    · rfl
    · rfl
    · omega
  rw [e]
  exact sh_decode (s.size - i) _ _ _ _ (s.get! i).toNat_lt _ (Go.Lib.decode_at s i)
def rlets (s : ByteArray) : Nat → Nat → List ByteArray
  | 0, _ => []
  | f + 1, pos => if pos < s.size then s.extract pos (pos + (Utf8.decode s pos).2) :: rlets s f (pos + (Utf8.decode s pos).2) else []
def rletters (s : ByteArray) : List ByteArray := rlets s s.size 0
def plets (s : ByteArray) : Nat → Nat → List (GL × ByteArray)
  | 0, _ => []
  | f + 1, pos => if pos < s.size then (glet s pos, s.extract pos (pos + (Utf8.decode s pos).2)) :: plets s f (pos + (Utf8.decode s pos).2) else []
theorem plets_fst (s : ByteArray) : ∀ f pos, (plets s f pos).map Prod.fst = glets s f pos
  | 0, _ => rfl
  | f + 1, pos => by
    unfold plets glets
    by_cases h : pos < s.size
    · rw [if_pos h, if_pos h, List.map_cons, plets_fst s f]
    · rw [if_neg h, if_neg h]; rfl
theorem plets_snd (s : ByteArray) : ∀ f pos, (plets s f pos).map Prod.snd = rlets s f pos
  | 0, _ => rfl
  | f + 1, pos => by
    unfold plets rlets
    by_cases h : pos < s.size
    · rw [if_pos h, if_pos h, List.map_cons, plets_snd s f]
    · rw [if_neg h, if_neg h]; rfl
theorem plets_sh (s : ByteArray) : ∀ f pos, ∀ x ∈ plets s f pos, Sh x.1 (nb x.2)
  | 0, _, x, hx => by simp [plets] at hx
  | f + 1, pos, x, hx => by
    unfold plets at hx
    by_cases h : pos < s.size
    · rw [if_pos h] at hx
      rcases List.mem_cons.1 hx with rfl | hx
      · exact sh_at s pos h
      · exact plets_sh s f _ x hx
    · rw [if_neg h] at hx; cases hx
theorem letters_match (p s : ByteArray) : rM (rletters p) (rletters s) = gM (gletters p) (gletters s) := by
  have e1 := mtB_map (fun x : GL × ByteArray => gStar x.1) (fun x y : GL × ByteArray => gOk x.1 y.1) gStar gOk Prod.fst Prod.fst (plets p p.size 0) (plets s s.size 0) (fun _ _ => rfl) (fun _ _ _ _ => rfl)
  have e2 := mtB_map (fun x : GL × ByteArray => gStar x.1) (fun x y : GL × ByteArray => gOk x.1 y.1) rStar rOk Prod.snd Prod.snd (plets p p.size 0) (plets s s.size 0) (fun a ha => sh_rStar (plets_sh p _ _ a ha)) (fun a ha x hx => sh_rOk (plets_sh p _ _ a ha) (plets_sh s _ _ x hx))
  rw [plets_fst, plets_fst] at e1
  rw [plets_snd, plets_snd] at e2
  exact e2.trans e1.symm
end Go.Proofs.YtcklgalgljmljaaDoor.Q
namespace Go.Proofs.YtcklgalgljmljaaDoor.Q
open Go.RowKit Go.Proofs.YtcklgalgljmljaaDoorW.PrintWords Go.Proofs.YtcklgalgljmljaaDoorW.PrintLast Go.Proofs.YtcklgalgljmljaaDoorW.PrintMore
theorem Width.max {rn : Int} {d : Nat} (h : Width rn d) : mx 1 rn = (d : Int) := by
  unfold mx
  rcases h with ⟨h1, h2⟩ | ⟨h1, h2⟩
  · rw [if_neg (by omega)]; omega
  · by_cases h3 : 1 < rn
    · rw [if_pos h3]; exact h1
    · rw [if_neg h3]; omega
theorem rune_up (s : ByteArray) (i : Nat) (hs : s.size ≤ 1000000000000) (hi : i < s.size) : ∃ rc rn, Width rn (Utf8.decode s i).2 ∧ ∀ k, 10 ≤ k → agoraref01_Rune.f k s (i : Int) = some (rc, rn) := by
  obtain ⟨rc, rn, h, hw⟩ := rune_f s i hs hi
  exact ⟨rc, rn, hw, fun k hk => at_rounds (fun k => agoraref01_Rune.mono _ _ k) hk h⟩
theorem letters_l0 (s : ByteArray) (hs : s.size ≤ 1000000000) : ∀ (f pos : Nat) (acc : List ByteArray) (K : Nat), s.size - pos ≤ f → acc.length ≤ pos → f + 11 ≤ K →
    agoraref23_Letters.l0 K s acc (pos : Int) = some (acc ++ rlets s f pos) := by
  intro f
  induction f with
  | zero =>
    intro pos acc K h1 _ h2
    obtain ⟨K, rfl⟩ : ∃ K', K = K' + 1 := ⟨K - 1, by omega⟩
    unfold agoraref23_Letters.l0 rlets
    rw [if_neg (by omega)]; simp
  | succ f ih =>
    intro pos acc K h1 ha h2
    obtain ⟨K, rfl⟩ : ∃ K', K = K' + 1 := ⟨K - 1, by omega⟩
    unfold agoraref23_Letters.l0 rlets
    by_cases h : pos < s.size
    · obtain ⟨rc, rn, hw, hr⟩ := rune_up s pos (by omega) h
      have hd := decode_width s pos h
      have hx : wrap64 ((pos : Int) + mx 1 rn) = ((pos + (Utf8.decode s pos).2 : Nat) : Int) := by rw [hw.max, wrap_small _ (by omega) (by omega)]; omega
      rw [if_pos (by omega), if_pos h, hr K (by omega)]
      simp only [Option.bind_some, hx]
      rw [if_pos (by omega), if_pos (by omega), if_pos (by omega), if_pos (by omega)]
      rw [ih (pos + (Utf8.decode s pos).2) _ K (by omega) (by simp; omega) (by omega)]
      simp only [Int.toNat_natCast, List.append_assoc, List.cons_append, List.nil_append]
    · rw [if_neg (by omega), if_neg h]; simp
theorem letters_f (s : ByteArray) (hs : s.size ≤ 1000000000) : ∀ K, s.size + 11 ≤ K → agoraref23_Letters.f K s = some (rletters s) := by
  intro K hK
  unfold agoraref23_Letters.f
  have := letters_l0 s hs s.size 0 [] K (by omega) (by simp) hK
  simpa [rletters] using this
theorem rlets_len (s : ByteArray) : ∀ f pos, (rlets s f pos).length ≤ f
  | 0, _ => by simp [rlets]
  | f + 1, pos => by
    unfold rlets
    by_cases h : pos < s.size
    · rw [if_pos h]; have := rlets_len s f (pos + (Utf8.decode s pos).2); simp; omega
    · rw [if_neg h]; simp
theorem rletters_len (s : ByteArray) (hs : s.size ≤ 1000000000) : (rletters s).length ≤ 1000000000 := by
  unfold rletters; have := rlets_len s s.size 0; omega
theorem ref_Match_of (k : Nat) (p s : ByteArray) (lp ls : List ByteArray) (r : Bool) (h1 : agoraref23_Letters.f k p = some lp) (h2 : agoraref23_Letters.f k s = some ls) (h3 : agoraref23_match.f k lp ls = some r) : agoraref23_Match.f k p s = some r := by
  unfold agoraref23_Match.f
  rw [h1, Option.bind_some, h2, Option.bind_some, h3, Option.bind_some]
theorem match_up (k j : Nat) (lp ls : List ByteArray) (r : Bool) (h : agoraref23_match.f k lp ls = some r) (hj : k ≤ j) : agoraref23_match.f j lp ls = some r := at_rounds (fun k => agoraref23_match.mono lp ls k) hj h
theorem ref_Match_f (p s : ByteArray) (hp : p.size ≤ 1000000000) (hs : s.size ≤ 1000000000) : ∃ K, agoraref23_Match.f K p s = some (gM (gletters p) (gletters s)) := by
  obtain ⟨K, h⟩ := ref_match_f (rletters p) (rletters s) (rletters_len p hp) (rletters_len s hs)
  rw [letters_match] at h
  obtain ⟨j, hj⟩ : ∃ j, j = K + (p.size + s.size + 11) := ⟨_, rfl⟩
  exact ⟨j, ref_Match_of j p s _ _ _ (letters_f p hp j (by omega)) (letters_f s hs j (by omega)) (match_up K j _ _ _ h (by omega))⟩
def lowN (b : Nat) : Nat := if 65 ≤ b ∧ b ≤ 90 then b + 32 else b
def lowS (s : ByteArray) : ByteArray := ⟨(s.data.toList.map fun b => UInt8.ofNat (lowN b.toNat)).toArray⟩
theorem lowS_size (s : ByteArray) : (lowS s).size = s.size := by
  show (lowS s).data.size = s.data.size
  simp [lowS]
theorem lowN_lt (b : Nat) (h : b < 256) : lowN b < 256 := by unfold lowN; split <;> omega
theorem lowS_get (s : ByteArray) (i : Nat) (h : i < s.size) : ((lowS s).get! i).toNat = lowN (s.get! i).toNat := by
  have h1 : i < s.data.size := h
  have h2 : i < (lowS s).data.size := by have := lowS_size s; show i < (lowS s).size; omega
  have e1 : (lowS s).get! i = (lowS s).data[i]'h2 := by
    show (lowS s).data[i]! = _
    rw [getElem!_pos (lowS s).data i h2]
  have e2 : s.get! i = s.data[i]'h1 := by
    show s.data[i]! = _
    rw [getElem!_pos s.data i h1]
  rw [e1, e2]
  simp only [lowS, List.getElem_toArray, List.getElem_map, Array.getElem_toList, UInt8.toNat_ofNat']
  have := lowN_lt _ (s.data[i]'h1).toNat_lt
  omega
theorem low_l0 (s : ByteArray) (hs : s.size ≤ 1000000000) : ∀ (f pos : Nat) (acc : ByteArray) (K : Nat), s.size - pos ≤ f → acc.data.toList = (s.data.toList.take pos).map (fun b => UInt8.ofNat (lowN b.toNat)) → pos ≤ s.size → f < K →
    agoraref23_Low.l0 K s acc (pos : Int) = some (lowS s) := by
  intro f
  induction f with
  | zero =>
    intro pos acc K h1 ha hp h2
    obtain ⟨K, rfl⟩ : ∃ K', K = K' + 1 := ⟨K - 1, by omega⟩
    unfold agoraref23_Low.l0
    rw [if_neg (by omega)]
    congr 1
    have : acc.data.toList = (lowS s).data.toList := by
      rw [ha, List.take_of_length_le (by simp; have : s.data.size = s.size := rfl; omega)]
      unfold lowS; simp
    exact ByteArray.ext (Array.toList_inj.1 this)
  | succ f ih =>
    intro pos acc K h1 ha hp h2
    obtain ⟨K, rfl⟩ : ∃ K', K = K' + 1 := ⟨K - 1, by omega⟩
    by_cases h : pos < s.size
    · have hz : acc.size = pos := by
        show acc.data.size = pos
        rw [← Array.length_toList, ha]; simp; have : s.data.size = s.size := rfl; omega
      have hk : pos < s.data.toList.length := by simp; exact h
      have hb : bt s (pos : Int) = ((s.data.toList[pos]'hk).toNat : Int) := by
        rw [bt_get s pos h]
        have : s.get! pos = s.data[pos]'h := by
          show s.data[pos]! = _
          rw [getElem!_pos s.data pos h]
        rw [this]; simp
      have key : ∀ v : Int, v = ((lowN (s.data.toList[pos]'hk).toNat : Nat) : Int) → agoraref23_Low.l0 K s (acc ++ strOfNums [v]) (wrap64 ((pos : Int) + 1)) = some (lowS s) := by
        rintro v rfl
        have hw : wrap64 ((pos : Int) + 1) = ((pos + 1 : Nat) : Int) := by rw [wrap_small _ (by omega) (by omega)]; omega
        rw [hw]
        apply ih (pos + 1) _ K (by omega) ?_ (by omega) (by omega)
        rw [← List.take_append_getElem hk]
        simp only [List.map_append, List.map_cons, List.map_nil, ← ha]
        rw [ByteArray.data_append, Array.toList_append]
        rfl
      have hlt := (s.data.toList[pos]'hk).toNat_lt
      have hsz : ∀ v : Int, acc.size + (strOfNums [v]).size ≤ 9223372036854775807 := fun v => by rw [Go.strOfNums_size]; simp; omega
      unfold agoraref23_Low.l0
      rw [if_pos (by omega), if_pos (by omega)]
      simp only [Option.bind_some]
      rw [if_pos (hsz _), if_pos (hsz _), hb]
      generalize (s.data.toList[pos]'hk).toNat = b at *
      by_cases c1 : 65 ≤ b
      · rw [if_pos (by omega)]
        by_cases c2 : b ≤ 90
        · rw [if_pos (by omega)]
          exact key _ (by unfold lowN; rw [if_pos ⟨c1, c2⟩]; omega)
        · rw [if_neg (by omega)]
          exact key _ (by unfold lowN; rw [if_neg (by omega)])
      · rw [if_neg (by omega)]
        exact key _ (by unfold lowN; rw [if_neg (by omega)])
    · have : pos = s.size := by omega
      exact (by
        unfold agoraref23_Low.l0
        rw [if_neg (by omega)]
        congr 1
        have : acc.data.toList = (lowS s).data.toList := by
          rw [ha, List.take_of_length_le (by simp; have : s.data.size = s.size := rfl; omega)]
          unfold lowS; simp
        exact ByteArray.ext (Array.toList_inj.1 this))
theorem low_f (s : ByteArray) (hs : s.size ≤ 1000000000) : ∀ K, s.size < K → agoraref23_Low.f K s = some (lowS s) := by
  intro K hK
  unfold agoraref23_Low.f
  exact low_l0 s hs s.size 0 _ K (by omega) (by simp) (by omega) hK
theorem get_far (s : ByteArray) (i : Nat) (h : s.size ≤ i) : s.get! i = 0 := by
  show s.data[i]! = 0
  rw [getElem!_neg s.data i (by have : s.data.size = s.size := rfl; omega)]; rfl
theorem lowS_get' (s : ByteArray) (i : Nat) : ((lowS s).get! i).toNat = lowN (s.get! i).toNat := by
  by_cases h : i < s.size
  · exact lowS_get s i h
  · rw [get_far s i (by omega), get_far (lowS s) i (by rw [lowS_size]; omega)]; rfl
set_option maxHeartbeats 4000000 in
theorem decodeN_low (n b0 b1 b2 b3 : Nat) : Go.Lib.decodeN n (lowN b0) (lowN b1) (lowN b2) (lowN b3) = if 65 ≤ b0 ∧ b0 ≤ 90 then (b0 + 32, 1) else Go.Lib.decodeN n b0 b1 b2 b3 := by
  have e : ∀ b, (lowN b / 64 = 2 ↔ b / 64 = 2) ∧ (b / 64 = 2 → lowN b = b) := fun b => by unfold lowN; split <;> omega
  by_cases h : 65 ≤ b0 ∧ b0 ≤ 90
  · rw [if_pos h]
    have : lowN b0 = b0 + 32 := by unfold lowN; rw [if_pos h]
    unfold Go.Lib.decodeN
    rw [this, if_pos (by omega)]
  · rw [if_neg h]
    have h0 : lowN b0 = b0 := by unfold lowN; rw [if_neg h]
    rw [h0]
    by_cases c1 : b1 / 64 = 2
    · rw [(e b1).2 c1]
      by_cases c2 : b2 / 64 = 2
      · rw [(e b2).2 c2]
        by_cases c3 : b3 / 64 = 2
        · rw [(e b3).2 c3]
        · have := (e b3).1
          unfold Go.Lib.decodeN
          simp only [this, c3, and_false, if_false]
      · have := (e b2).1
        unfold Go.Lib.decodeN
        simp only [this, c2, and_false, false_and, if_false]
    · have := (e b1).1
      unfold Go.Lib.decodeN
      simp only [this, c1, and_false, false_and, if_false]
theorem decode_low (s : ByteArray) (i : Nat) : Utf8.decode (lowS s) i = if 65 ≤ (s.get! i).toNat ∧ (s.get! i).toNat ≤ 90 then ((s.get! i).toNat + 32, 1) else Utf8.decode s i := by
  rw [Go.Lib.decode_at, Go.Lib.decode_at, lowS_size]
  simp only [lowS_get']
  exact decodeN_low _ _ _ _ _
theorem decode_ascii (s : ByteArray) (i : Nat) (h : (s.get! i).toNat < 128) : Utf8.decode s i = ((s.get! i).toNat, 1) := by
  rw [Go.Lib.decode_at]; unfold Go.Lib.decodeN; rw [if_pos h]
theorem decode_low_width (s : ByteArray) (i : Nat) : (Utf8.decode (lowS s) i).2 = (Utf8.decode s i).2 := by
  rw [decode_low]
  by_cases h : 65 ≤ (s.get! i).toNat ∧ (s.get! i).toNat ≤ 90
  · rw [if_pos h, decode_ascii s i (by omega)]
  · rw [if_neg h]
theorem glet_low (s : ByteArray) (i : Nat) (h : i < s.size) : glet (lowS s) i = glow (glet s i) := by
  rw [glet_of s i h, glet_of (lowS s) i (by rw [lowS_size]; exact h), decode_low, lowS_get']
  by_cases c : 65 ≤ (s.get! i).toNat ∧ (s.get! i).toNat ≤ 90
  · rw [if_pos c, decode_ascii s i (by omega)]
    have g1 : ∀ m : Nat, m < 65533 → gl_of (m, 1) = fun _ => ⟨(m : Int), false⟩ := fun m hm => by funext x; unfold gl_of; rw [if_neg (by simp only; omega)]
    rw [g1 _ (by omega), g1 _ (by omega)]
    unfold glow
    rw [if_pos ⟨rfl, by show (65 : Int) ≤ ((s.get! i).toNat : Int); omega, by show ((s.get! i).toNat : Int) ≤ 90; omega⟩, gl_ext]; simp
  · rw [if_neg c]
    have e : lowN (s.get! i).toNat = (s.get! i).toNat := by unfold lowN; rw [if_neg c]
    rw [e]
    have hsh := sh_decode (s.size - i) (s.get! i).toNat (s.get! (i + 1)).toNat (s.get! (i + 2)).toNat (s.get! (i + 3)).toNat (s.get! i).toNat_lt _ (Go.Lib.decode_at s i)
    generalize gl_of (Utf8.decode s i) (s.get! i).toNat = g at *
    unfold glow
    rw [if_neg]
    rintro ⟨h1, h2, h3⟩
    rcases hsh with ⟨a, h1, rfl, h5⟩ | ⟨a, h1, h2, rfl, h5⟩ | ⟨a, b, h1, h2, h3, rfl, h5⟩ | ⟨a, b, c, h1, h2, h3, h4, rfl, h5⟩ | ⟨a, b, c, d, h1, h2, h3, h4, h5, rfl, h6⟩
    · have hw := decode_width s i h
      have : a = (s.get! i).toNat := by
        generalize (Utf8.decode s i).2 = w at *
        obtain ⟨w, rfl⟩ : ∃ w', w = w' + 1 := ⟨w - 1, by omega⟩
        rw [List.take_succ_cons] at h5; injection h5 with h5 _; exact h5.symm
      simp only at h2 h3; omega
    · simp at h1
    · simp only at h2 h3; omega
    · simp only at h2 h3; omega
    · simp only at h2 h3; omega
theorem glets_low (s : ByteArray) : ∀ f pos, glets (lowS s) f pos = (glets s f pos).map glow
  | 0, _ => rfl
  | f + 1, pos => by
    unfold glets
    rw [lowS_size]
    by_cases h : pos < s.size
    · rw [if_pos h, if_pos h, List.map_cons, glets_low s f, glet_low s pos h, decode_low_width]
    · rw [if_neg h, if_neg h]; rfl
theorem gletters_low (s : ByteArray) : gletters (lowS s) = (gletters s).map glow := by
  unfold gletters; rw [lowS_size, glets_low]
def foldB (p s : ByteArray) : Bool := gM ((gletters p).map glow) ((gletters s).map glow)
theorem ref_Fold_of (k : Nat) (p s : ByteArray) (lp ls : ByteArray) (r : Bool) (h1 : agoraref23_Low.f k p = some lp) (h2 : agoraref23_Low.f k s = some ls) (h3 : agoraref23_Match.f k lp ls = some r) : agoraref23_Fold.f k p s = some r := by
  unfold agoraref23_Fold.f
  rw [h1, Option.bind_some, h2, Option.bind_some, h3, Option.bind_some]
theorem Match_up (k j : Nat) (lp ls : ByteArray) (r : Bool) (h : agoraref23_Match.f k lp ls = some r) (hj : k ≤ j) : agoraref23_Match.f j lp ls = some r := at_rounds (fun k => agoraref23_Match.mono lp ls k) hj h
theorem ref_Fold_f (p s : ByteArray) (hp : p.size ≤ 1000000000) (hs : s.size ≤ 1000000000) : ∃ K, agoraref23_Fold.f K p s = some (foldB p s) := by
  obtain ⟨K, h⟩ := ref_Match_f (lowS p) (lowS s) (by rw [lowS_size]; exact hp) (by rw [lowS_size]; exact hs)
  rw [gletters_low, gletters_low] at h
  obtain ⟨j, hj⟩ : ∃ j, j = K + (p.size + s.size + 1) := ⟨_, rfl⟩
  exact ⟨j, ref_Fold_of j p s _ _ _ (low_f p hp j (by omega)) (low_f s hs j (by omega)) (Match_up K j _ _ _ h (by omega))⟩
theorem glob_Fold_f (p s : ByteArray) (hp : p.size ≤ 1000000000) (hs : s.size ≤ 1000000000) : ∃ K, glob_Fold.f K p s = some (foldB p s) := by
  have lp := gletters_len p
  have ls := gletters_len s
  obtain ⟨K, h⟩ := glob_match_f ((gletters p).map glow) ((gletters s).map glow) (by rw [List.length_map]; omega) (by rw [List.length_map]; omega)
  refine ⟨K, ?_⟩
  unfold glob_Fold.f
  rw [if_neg (by omega), if_neg (by omega)]
  exact h
end Go.Proofs.YtcklgalgljmljaaDoor.Q
namespace Go.Proofs.YtcklgalgljmljaaDoor.Q
open Go.RowKit Go.Proofs.YtcklgalgljmljaaDoorW.PrintWords Go.Proofs.YtcklgalgljmljaaDoorW.PrintLast Go.Proofs.YtcklgalgljmljaaDoorW.PrintMore
theorem small_f (c : Int) : agoraref04_small.f c = some (idSmall c) := by
  unfold agoraref04_small.f idSmall
  by_cases h1 : 97 ≤ c <;> by_cases h2 : c ≤ 122 <;> by_cases h3 : 48 ≤ c <;> by_cases h4 : c ≤ 57 <;> by_cases h5 : c = 46 <;> simp [h1, h2, h3, h4, h5] <;> omega
theorem nat_succ_wrap (i : Nat) (h : i ≤ 1000000000000) : wrap64 ((i : Int) + 1) = ((i + 1 : Nat) : Int) := by unfold wrap64; omega
theorem server_l0 (s : ByteArray) (hs : s.size ≤ 1000000000) : ∀ (m i K : Nat), m = s.size - i → i ≤ s.size → m < K → ∃ b, agoraref04_Server.l0 K s (i : Int) = some b ∧ (b = true ↔ ∀ j : Nat, i ≤ j → j < s.size → idServer1 (bt s (j : Int)) = true)
  | 0, i, K, hm, hi, hK => by
    obtain ⟨K, rfl⟩ : ∃ j, K = j + 1 := ⟨K - 1, by omega⟩
    refine ⟨true, ?_, by simp only [true_iff]; intro j h1 h2; omega⟩
    unfold agoraref04_Server.l0
    rw [if_neg (by omega)]
  | m + 1, i, K, hm, hi, hK => by
    obtain ⟨K, rfl⟩ : ∃ j, K = j + 1 := ⟨K - 1, by omega⟩
    obtain ⟨b, hb, hq⟩ := server_l0 s hs m (i + 1) K (by omega) (by omega) (by omega)
    unfold agoraref04_Server.l0
    rw [if_pos (by omega), if_pos (by omega), small_f, Option.bind_some, nat_succ_wrap i (by omega), hb]
    have step : idServer1 (bt s (i : Int)) = true → (b = true ↔ ∀ j : Nat, i ≤ j → j < s.size → idServer1 (bt s (j : Int)) = true) := by
      intro hv
      rw [hq]
      refine ⟨fun h j h1 h2 => ?_, fun h j h1 h2 => h j (by omega) h2⟩
      by_cases e : j = i
      · rw [e]; exact hv
      · exact h j (by omega) h2
    by_cases c1 : idSmall (bt s (i : Int)) = true
    · rw [if_pos c1]
      exact ⟨b, rfl, step (by unfold idServer1; rw [c1]; rfl)⟩
    · rw [if_neg c1]
      by_cases c2 : bt s (i : Int) = 45
      · rw [if_pos c2]
        exact ⟨b, rfl, step (by unfold idServer1; rw [decide_eq_true c2]; simp)⟩
      · rw [if_neg c2]
        refine ⟨false, rfl, ?_⟩
        simp only [Bool.false_eq_true, false_iff]
        intro h
        have := h i (Nat.le_refl _) (by omega)
        unfold idServer1 at this
        rw [Bool.or_eq_true, decide_eq_true_eq] at this
        exact this.elim c1 c2
theorem server_f (s : ByteArray) (hs : s.size ≤ 1000000000) : ∀ K, s.size + 2 ≤ K → agoraref04_Server.f K s = some (isServer s) := by
  intro K hK
  obtain ⟨K, rfl⟩ : ∃ j, K = j + 1 := ⟨K - 1, by omega⟩
  unfold agoraref04_Server.f isServer
  by_cases h1 : s.size < 1
  · rw [if_pos (by omega), agoraref04_Server.j0, if_pos rfl, decide_eq_false (by omega)]; rfl
  · rw [if_neg (by omega), agoraref04_Server.j0]
    by_cases h2 : s.size ≤ 32
    · rw [if_neg (by simp; omega), decide_eq_true (by omega)]
      obtain ⟨b, hb, hq⟩ := server_l0 s hs s.size 0 K (by omega) (by omega) (by omega)
      refine hb.trans ?_
      congr 1
      rw [Bool.true_and, Bool.eq_iff_iff, hq]
      unfold allB
      rw [List.all_eq_true]
      exact ⟨fun h j hj => h j (by omega) (List.mem_range.1 hj), fun h j _ hj => h j (List.mem_range.2 hj)⟩
    · rw [if_pos (by simp; omega), decide_eq_false (by omega)]; rfl
def aclTexts : List JS → Nat → List ByteArray
  | [], _ => []
  | x :: l, n => if aclSkips x n then aclTexts l n else x.f2 :: aclTexts l (n + 1)
def aclList (o : Option JS) : List ByteArray :=
  match o with
  | none => []
  | some v => if v.f0 = 4 then aclTexts v.f4 0 else []
theorem aclTexts_size : ∀ (l : List JS) (n : Nat), ∀ x ∈ aclTexts l n, x.size ≤ 256
  | [], _, x, hx => by cases hx
  | a :: l, n, x, hx => by
    unfold aclTexts at hx
    by_cases h : aclSkips a n = true
    · rw [if_pos h] at hx; exact aclTexts_size l n x hx
    · rw [if_neg h] at hx
      rcases List.mem_cons.1 hx with rfl | hx
      · unfold aclSkips at h
        simp only [Bool.or_eq_true, decide_eq_true_eq, not_or] at h; omega
      · exact aclTexts_size l (n + 1) x hx
theorem aclList_size (o : Option JS) : ∀ x ∈ aclList o, x.size ≤ 256 := by
  intro x hx
  unfold aclList at hx
  split at hx
  · cases hx
  · split at hx
    · exact aclTexts_size _ _ x hx
    · cases hx
theorem aclTexts_len : ∀ (l : List JS) (n : Nat), n ≤ 100 → n + (aclTexts l n).length ≤ 100
  | [], n, h => by unfold aclTexts; simpa using h
  | a :: l, n, h => by
    unfold aclTexts
    by_cases h1 : aclSkips a n = true
    · rw [if_pos h1]; exact aclTexts_len l n h
    · rw [if_neg h1]
      have h3 : n ≠ 100 := by
        unfold aclSkips at h1
        simp only [Bool.or_eq_true, decide_eq_true_eq, not_or] at h1; omega
      have := aclTexts_len l (n + 1) (by omega)
      simp only [List.length_cons]; omega
theorem aclList_len (o : Option JS) : (aclList o).length ≤ 100 := by
  unfold aclList
  split
  · simp
  · split
    · have := aclTexts_len (by assumption : JS).f4 0 (by omega); omega
    · simp
theorem aclScan_some (hf : ByteArray → Option Bool) (g : ByteArray → Bool) : ∀ (l : List JS) (n : Nat), (∀ x ∈ aclTexts l n, hf x = some (g x)) → aclScan hf l n = some ((aclTexts l n).any g)
  | [], _, _ => rfl
  | a :: l, n, h => by
    unfold aclScan aclTexts
    unfold aclTexts at h
    by_cases h1 : aclSkips a n = true
    · rw [if_pos h1] at h
      rw [if_pos h1, if_pos h1]; exact aclScan_some hf g l n h
    · rw [if_neg h1] at h
      rw [if_neg h1, if_neg h1, h a.f2 (List.mem_cons_self ..), Option.bind_some, List.any_cons]
      by_cases h2 : g a.f2 = true
      · rw [if_pos h2, h2]; rfl
      · rw [if_neg h2, aclScan_some hf g l (n + 1) (fun x hx => h x (List.mem_cons_of_mem _ hx))]
        rw [Bool.eq_false_iff.2 h2]; rfl
theorem aclOne_some (hf : ByteArray → Option Bool) (g : ByteArray → Bool) (o : Option JS) (h : ∀ x ∈ aclList o, hf x = some (g x)) : aclOne hf o = some ((aclList o).any g) := by
  cases o with
  | none => rfl
  | some v =>
    simp only [aclOne, aclList] at h ⊢
    by_cases h1 : v.f0 = 4
    · rw [if_pos h1] at h
      rw [if_pos h1, if_pos h1]; exact aclScan_some hf g _ _ h
    · rw [if_neg h1, if_neg h1]; rfl
theorem fold_all (s : ByteArray) (hs : s.size ≤ 1000000000) : ∀ l : List ByteArray, (∀ x ∈ l, x.size ≤ 1000000000) → ∃ K, ∀ k, K ≤ k → ∀ x ∈ l, glob_Fold.f k x s = some (foldB x s) ∧ agoraref23_Fold.f k x s = some (foldB x s)
  | [], _ => ⟨0, fun _ _ x hx => by cases hx⟩
  | a :: l, h => by
    obtain ⟨K, hK⟩ := fold_all s hs l (fun x hx => h x (List.mem_cons_of_mem _ hx))
    obtain ⟨K1, h1⟩ := glob_Fold_f a s (h a (List.mem_cons_self ..)) hs
    obtain ⟨K2, h2⟩ := ref_Fold_f a s (h a (List.mem_cons_self ..)) hs
    refine ⟨K + K1 + K2, fun k hk x hx => ?_⟩
    rcases List.mem_cons.1 hx with rfl | hx
    · exact ⟨at_rounds (fun k => glob_Fold.mono x s k) (by omega) h1, at_rounds (fun k => agoraref23_Fold.mono x s k) (by omega) h2⟩
    · exact hK k (by omega) x hx
theorem fits_l0 (l : List ByteArray) (hl : l.length ≤ 1000000000) (s : ByteArray) (K0 : Nat) (hf : ∀ k, K0 ≤ k → ∀ x ∈ l, agoraref23_Fold.f k x s = some (foldB x s)) : ∀ (m i K : Nat), m = l.length - i → i ≤ l.length → K0 + m < K →
    agoraref36_fits.l0 K l s (i : Int) = some ((l.drop i).any fun p => foldB p s)
  | 0, i, K, hm, hi, hK => by
    obtain ⟨K, rfl⟩ : ∃ j, K = j + 1 := ⟨K - 1, by omega⟩
    have : i = l.length := by omega
    subst this
    unfold agoraref36_fits.l0
    rw [if_neg (by omega)]; simp
  | m + 1, i, K, hm, hi, hK => by
    obtain ⟨K, rfl⟩ : ∃ j, K = j + 1 := ⟨K - 1, by omega⟩
    have hlt : i < l.length := by omega
    have hrd : rdOf ByteArray.empty l (i : Int) = l[i] := by simp [rdOf, hlt]
    unfold agoraref36_fits.l0
    rw [if_pos (by omega), if_pos (by omega), hrd, hf K (by omega) _ (List.getElem_mem hlt), Option.bind_some, nat_succ_wrap i (by omega), fits_l0 l hl s K0 hf m (i + 1) K (by omega) (by omega) (by omega)]
    rw [List.drop_eq_getElem_cons hlt, List.any_cons]
    by_cases h2 : foldB l[i] s = true
    · rw [if_pos h2, h2]; rfl
    · rw [if_neg h2, Bool.eq_false_iff.2 h2]; rfl
theorem fits_f (l : List ByteArray) (hl : l.length ≤ 1000000000) (s : ByteArray) (K0 : Nat) (hf : ∀ k, K0 ≤ k → ∀ x ∈ l, agoraref23_Fold.f k x s = some (foldB x s)) (K : Nat) (hK : K0 + l.length < K) : agoraref36_fits.f K l s = some (l.any fun p => foldB p s) := by
  unfold agoraref36_fits.f
  have := fits_l0 l hl s K0 hf l.length 0 K (by omega) (by omega) hK
  simpa using this
def getOf (o : Option JS) : Int × Int × ByteArray × List ByteArray × List JS × Bool :=
  match o with
  | none => (0, 0, ⟨#[]⟩, [], [], false)
  | some x => (x.f0, x.f1, x.f2, x.f3, x.f4, true)
theorem aclIdx_lo (x : ByteArray) : ∀ (l : List ByteArray) (i : Int), 0 ≤ i → aclIdx l x i = -1 ∨ i ≤ aclIdx l x i
  | [], _, _ => Or.inl rfl
  | a :: l, i, h => by
    unfold aclIdx
    by_cases c : a.toList = x.toList
    · rw [if_pos c]; exact Or.inr (Int.le_refl _)
    · rw [if_neg c]
      rcases aclIdx_lo x l (i + 1) (by omega) with h | h
      · exact Or.inl h
      · exact Or.inr (by omega)
def valFrom (keys : List ByteArray) (list : List JS) (key : ByteArray) (i : Nat) : Option JS :=
  if aclIdx (keys.drop i) key (i : Int) < 0 then none else if (list.length : Int) ≤ aclIdx (keys.drop i) key (i : Int) then none else some (rd_T25 list (aclIdx (keys.drop i) key (i : Int)))
theorem get_l0 (keys : List ByteArray) (hk : keys.length ≤ 1000000000) (list : List JS) (key : ByteArray) (kd n : Int) (t : ByteArray) : ∀ (m i K : Nat), m = keys.length - i → i ≤ keys.length → 2 * m + 1 < K →
    agoraref01_Get.l0 K key (i : Int) kd n t keys list = some (getOf (valFrom keys list key i))
  | 0, i, K, hm, hi, hK => by
    obtain ⟨K, rfl⟩ : ∃ j, K = j + 2 := ⟨K - 2, by omega⟩
    have : i = keys.length := by omega
    subst this
    unfold agoraref01_Get.l0
    rw [if_neg (by omega), agoraref01_Get.j1, if_neg (by decide)]
    unfold valFrom
    rw [List.drop_length]; rfl
  | m + 1, i, K, hm, hi, hK => by
    obtain ⟨K, rfl⟩ : ∃ j, K = j + 2 := ⟨K - 2, by omega⟩
    have hlt : i < keys.length := by omega
    have hrd : rdOf ByteArray.empty keys (i : Int) = keys[i] := by simp [rdOf, hlt]
    have ih := get_l0 keys hk list key kd n t m (i + 1) K (by omega) (by omega) (by omega)
    unfold agoraref01_Get.l0
    rw [if_pos (by omega), agoraref01_Get.j1]
    by_cases h1 : i < list.length
    · rw [if_pos (decide_eq_true (by omega)), if_pos (by omega), if_pos (by omega), hrd, nat_succ_wrap i (by omega), ih]
      unfold valFrom
      rw [List.drop_eq_getElem_cons hlt, aclIdx]
      by_cases h2 : keys[i].toList = key.toList
      · rw [if_pos h2, if_pos (by omega), if_pos h2, if_neg (by omega), if_neg (by omega)]; rfl
      · rw [if_neg h2, if_neg h2]; rfl
    · rw [if_neg (by rw [decide_eq_false (by omega)]; decide)]
      unfold valFrom
      rcases aclIdx_lo key (keys.drop i) (i : Int) (by omega) with h | h
      · rw [if_pos (by omega)]; rfl
      · rw [if_neg (by omega), if_pos (by omega)]; rfl
theorem get_f (kd n : Int) (t : ByteArray) (keys : List ByteArray) (hk : keys.length ≤ 1000000000) (list : List JS) (key : ByteArray) (K : Nat) (hK : 2 * keys.length + 1 < K) : agoraref01_Get.f K kd n t keys list key = some (getOf (aclValue kd keys list key)) := by
  unfold agoraref01_Get.f aclValue
  by_cases h : kd = 5
  · rw [if_pos h, if_neg (by omega)]
    have := get_l0 keys hk list key kd n t keys.length 0 K (by omega) (by omega) hK
    exact this
  · rw [if_neg h, if_pos h]; rfl
theorem list_l0 (list : List JS) (hl : list.length ≤ 1000000000) (kd n : Int) (t : ByteArray) (keys : List ByteArray) : ∀ (m i K : Nat) (acc : List ByteArray), m = list.length - i → i ≤ list.length → acc.length ≤ 100 → m < K →
    agoraref36_List.l0 K acc (i : Int) kd n t keys list = some (acc ++ aclTexts (list.drop i) acc.length)
  | 0, i, K, acc, hm, hi, _, hK => by
    obtain ⟨K, rfl⟩ : ∃ j, K = j + 1 := ⟨K - 1, by omega⟩
    have : i = list.length := by omega
    subst this
    unfold agoraref36_List.l0
    rw [if_neg (by omega), List.drop_length, aclTexts]; simp
  | m + 1, i, K, acc, hm, hi, ha, hK => by
    obtain ⟨K, rfl⟩ : ∃ j, K = j + 1 := ⟨K - 1, by omega⟩
    have hlt : i < list.length := by omega
    have hrd : rd_T25 list (i : Int) = list[i] := by simp [rd_T25, hlt]
    have ih := fun acc h => list_l0 list hl kd n t keys m (i + 1) K acc (by omega) (by omega) h (by omega)
    unfold agoraref36_List.l0
    rw [if_pos (by omega), if_pos (by omega), hrd, nat_succ_wrap i (by omega), ih acc ha]
    rw [List.drop_eq_getElem_cons hlt, aclTexts]
    unfold aclSkips
    by_cases h1 : list[i].f0 = 3
    · rw [if_pos h1]
      by_cases h2 : list[i].f2.size ≤ 256
      · rw [if_pos (by omega)]
        by_cases h3 : acc.length < 100
        · rw [if_pos (by omega), if_pos (by omega), ih (acc ++ [list[i].f2]) (by simp; omega), if_neg (by simp [h1]; omega)]
          simp
        · rw [if_neg (by omega), if_pos (by simp; omega)]
      · rw [if_neg (by omega), if_pos (by simp; omega)]
    · rw [if_neg h1, if_pos (by simp [h1])]
theorem list_f (kd n : Int) (t : ByteArray) (keys : List ByteArray) (hk : keys.length ≤ 1000000000) (list : List JS) (key : ByteArray) (hl : ∀ x, aclValue kd keys list key = some x → x.f4.length ≤ 1000000000) (K : Nat) (hK : 2 * keys.length + 1 < K)
    (hK2 : ∀ x, aclValue kd keys list key = some x → x.f4.length + 1 < K) : agoraref36_List.f K kd n t keys list key = some (aclList (aclValue kd keys list key)) := by
  unfold agoraref36_List.f
  rw [get_f kd n t keys hk list key K hK, Option.bind_some]
  obtain ⟨K, rfl⟩ : ∃ j, K = j + 1 := ⟨K - 1, by omega⟩
  cases h : aclValue kd keys list key with
  | none => rw [if_neg (by simp [getOf]), agoraref36_List.j0, if_pos rfl]; rfl
  | some v =>
    simp only [getOf, aclList]
    rw [if_pos trivial, agoraref36_List.j0]
    by_cases h1 : v.f0 = 4
    · rw [if_neg (by simp [h1]), if_pos h1]
      have := list_l0 v.f4 (hl v h) v.f0 v.f1 v.f2 v.f3 v.f4.length 0 K [] (by omega) (by omega) (by simp) (by have := hK2 v h; omega)
      exact this
    · rw [if_pos (by simp [h1]), if_neg h1]
end Go.Proofs.YtcklgalgljmljaaDoor.Q
namespace Go.Proofs.YtcklgalgljmljaaDoor.Q
open Go.RowKit Go.Proofs.YtcklgalgljmljaaDoorW.PrintWords Go.Proofs.YtcklgalgljmljaaDoorW.PrintLast Go.Proofs.YtcklgalgljmljaaDoorW.PrintMore
def isDig (b : UInt8) : Bool := decide (48 ≤ b.toNat ∧ b.toNat ≤ 57)
def goodL (l : List UInt8) : Bool := decide (1 ≤ l.length ∧ l.length ≤ 3) && l.all isDig
def chop : List UInt8 → List (List UInt8)
  | [] => [[]]
  | b :: l => if b = 46 then [] :: chop l else match chop l with
    | [] => [[b]]
    | h :: t => (b :: h) :: t
theorem chop_ne : ∀ l, chop l ≠ []
  | [] => by simp [chop]
  | b :: l => by
    unfold chop
    split
    · simp
    · split <;> simp
theorem chop_no : ∀ a : List UInt8, (46 : UInt8) ∉ a → chop a = [a]
  | [], _ => rfl
  | b :: l, h => by
    have h1 : b ≠ 46 := fun e => h (e ▸ List.mem_cons_self ..)
    unfold chop
    rw [if_neg h1, chop_no l (fun e => h (List.mem_cons_of_mem _ e))]
theorem chop_at : ∀ (a b : List UInt8), (46 : UInt8) ∉ a → chop (a ++ 46 :: b) = a :: chop b
  | [], b, _ => by rw [List.nil_append, chop, if_pos rfl]
  | x :: a, b, h => by
    have h1 : x ≠ 46 := fun e => h (e ▸ List.mem_cons_self ..)
    rw [List.cons_append, chop, if_neg h1, chop_at a b (fun e => h (List.mem_cons_of_mem _ e))]
theorem index_one (c : UInt8) : ∀ l : List UInt8, (Lib.index l [c] = -1 ∧ c ∉ l) ∨ (∃ a b, l = a ++ c :: b ∧ c ∉ a ∧ Lib.index l [c] = a.length)
  | [] => Or.inl ⟨rfl, by simp⟩
  | x :: l => by
    unfold Lib.index
    by_cases h : x = c
    · subst h
      exact Or.inr ⟨[], l, rfl, by simp, by simp [List.isPrefixOf]⟩
    · have hp : ([c] : List UInt8).isPrefixOf (x :: l) = false := by simp [List.isPrefixOf, Ne.symm h]
      rw [hp]
      rcases index_one c l with ⟨h1, h2⟩ | ⟨a, b, rfl, h2, h3⟩
      · left
        rw [h1]; refine ⟨by simp, ?_⟩
        simp only [List.mem_cons, not_or]; exact ⟨Ne.symm h, h2⟩
      · right
        refine ⟨x :: a, b, rfl, ?_, ?_⟩
        · simp only [List.mem_cons, not_or]; exact ⟨Ne.symm h, h2⟩
        · rw [h3]
          rw [if_neg (by decide), if_neg (by simp only [beq_iff_eq]; omega)]
          simp
def dot : ByteArray := ⟨#[46]⟩
theorem split_chop : ∀ (m : Nat) (s : ByteArray), s.size ≤ m → (Lib.splitB dot 0 (Lib.countB s dot) s).map (fun b => b.data.toList) = chop s.data.toList
  | m, s, hm => by
    have hI : Lib.indexB s dot = Lib.index s.data.toList [46] := rfl
    rcases index_one 46 s.data.toList with ⟨h1, h2⟩ | ⟨a, b, h1, h2, h3⟩
    · rw [Lib.splitB_miss _ _ _ _ (hI.trans h1), chop_no _ h2]; rfl
    · have hix : Lib.indexB s dot = ((a.length : Nat) : Int) := hI.trans h3
      have hc := Lib.countB_hit s dot a.length (by decide) hix
      have hsz : s.size = a.length + 1 + b.length := by
        have : s.size = s.data.toList.length := by simp
        rw [this, h1]; simp; omega
      have e1 : (s.extract 0 (a.length + 0)).data.toList = a := by
        rw [ByteArray.data_extract, Array.toList_extract, h1]; simp
      have e2 : (s.extract (a.length + dot.size) s.size).data.toList = b := by
        rw [ByteArray.data_extract, Array.toList_extract, h1, hsz]
        have : dot.size = 1 := rfl
        rw [this]
        simp
      rw [hc, Nat.add_comm 1, Lib.splitB_hit _ _ _ _ _ hix, List.map_cons, e1, h1, chop_at _ _ h2]
      congr 1
      have hsz2 : (s.extract (a.length + dot.size) s.size).size = b.length := by
        have : (s.extract (a.length + dot.size) s.size).size = (s.extract (a.length + dot.size) s.size).data.toList.length := by simp
        rw [this, e2]
      have ih := split_chop (m - 1) (s.extract (a.length + dot.size) s.size) (by omega)
      rw [e2] at ih
      exact ih
termination_by _ s => s.size
decreasing_by
  rw [hsz2]; omega
theorem idx_digits (s : ByteArray) : ∀ (f pos : Nat), s.size - pos ≤ f → (0 ≤ Lib.idxFuncFrom noDigit true s f pos ↔ ∃ j, pos ≤ j ∧ j < s.size ∧ isDig (s.get! j) = false)
  | 0, pos, h => by
    unfold Lib.idxFuncFrom
    constructor
    · intro h; omega
    · rintro ⟨j, h1, h2, _⟩; omega
  | f + 1, pos, h => by
    unfold Lib.idxFuncFrom
    by_cases hp : pos < s.size
    · rw [if_pos hp]
      by_cases hd : 48 ≤ (s.get! pos).toNat ∧ (s.get! pos).toNat ≤ 57
      · have hg : isDig (s.get! pos) = true := decide_eq_true hd
        rw [decode_ascii s pos (by omega)]
        rw [if_neg (by unfold noDigit; rw [decide_eq_false (by omega), decide_eq_false (by omega)]; decide), idx_digits s f (pos + 1) (by omega)]
        constructor
        · rintro ⟨j, h1, h2, h3⟩; exact ⟨j, by omega, h2, h3⟩
        · rintro ⟨j, h1, h2, h3⟩
          refine ⟨j, ?_, h2, h3⟩
          by_cases e : j = pos
          · rw [e, hg] at h3; cases h3
          · omega
      · have hn : noDigit (Utf8.decode s pos).1 = true := by
          unfold noDigit
          rw [Bool.or_eq_true, decide_eq_true_eq, decide_eq_true_eq, Go.Lib.decode_at]
          generalize (s.get! pos).toNat = b0 at *
          unfold Go.Lib.decodeN
          repeat' split
          all_goals (simp only; omega)
        rw [if_pos hn]
        constructor
        · intro _; exact ⟨pos, Nat.le_refl _, hp, decide_eq_false hd⟩
        · intro _; omega
    · rw [if_neg hp]
      constructor
      · intro h; omega
      · rintro ⟨j, h1, h2, _⟩; omega
theorem get_list (s : ByteArray) (j : Nat) (h : j < s.data.toList.length) : s.get! j = s.data.toList[j] := by
  have h1 : j < s.data.size := by simpa using h
  show s.data[j]! = _
  rw [getElem!_pos s.data j h1]; simp
theorem wrongP_good (s : ByteArray) : wrongP s = !goodL s.data.toList := by
  have hl : s.data.toList.length = s.size := by simp
  have hi := idx_digits s s.size 0 (by omega)
  have hall : s.data.toList.all isDig = !decide (0 ≤ Lib.idxFunc noDigit true s) := by
    rw [Bool.eq_iff_iff, List.all_eq_true]
    unfold Lib.idxFunc
    simp only [Bool.not_eq_true', decide_eq_false_iff_not, hi, not_exists, not_and, Bool.not_eq_false]
    constructor
    · intro h j _ h2
      have h3 : j < s.data.toList.length := by omega
      have := h _ (List.getElem_mem h3)
      rw [← get_list s j h3] at this
      exact this
    · intro h x hx
      obtain ⟨j, h1, rfl⟩ := List.getElem_of_mem hx
      rw [← get_list s j h1]
      exact h j (by omega) (by omega)
  unfold wrongP goodL
  rw [hall, ByteArray.toList_eq]
  have h0 : s.data.toList.isEmpty = decide (s.size = 0) := by
    rw [← hl]; cases s.data.toList <;> simp
  rw [h0, hl]
  generalize decide (0 ≤ Lib.idxFunc noDigit true s) = q
  by_cases c1 : s.size = 0
  · simp [c1]
  · by_cases c2 : s.size ≤ 3
    · have : 1 ≤ s.size := by omega
      have c3 : ¬ (3 : Int) < s.size := by omega
      simp [c1, c2, this, c3]
    · have c3 : (3 : Int) < s.size := by omega
      simp [c1, c2, c3]
def litB (l : List UInt8) : Bool := decide ((chop l).length = 4) && (chop l).all goodL
theorem aclLiteral_chop (s : ByteArray) : aclLiteral s = litB s.data.toList := by
  have h := split_chop s.size s (Nat.le_refl _)
  unfold aclLiteral litB
  have e : (aclParts s).map (fun b => b.data.toList) = chop s.data.toList := h
  rw [← e, List.length_map, List.all_map]
  congr 1
  rw [Bool.eq_iff_iff, Bool.not_eq_true', List.all_eq_true, List.any_eq_false]
  constructor
  · intro h x hx
    have := h x hx
    rw [wrongP_good] at this
    simpa using this
  · intro h x hx
    have := h x hx
    rw [wrongP_good]
    simpa using this
def litA (n : Nat) (ps : List (List UInt8)) : Bool :=
  match ps with
  | [] => false
  | h :: t => decide (1 ≤ n + h.length ∧ n + h.length ≤ 3) && (h.all isDig && t.all goodL)
theorem litA_zero (ps : List (List UInt8)) (h : ps ≠ []) : litA 0 ps = ps.all goodL := by
  cases ps with
  | nil => exact absurd rfl h
  | cons a t => simp only [litA, List.all_cons, Nat.zero_add, goodL, Bool.and_assoc]
theorem lit_l0 (s : ByteArray) (hs : s.size ≤ 1000000000) : ∀ (m i K n d : Nat), m = s.size - i → i ≤ s.size → n ≤ i → d ≤ i → 3 * m + 5 ≤ K →
    agoraref36_literal.l0 K s (n : Int) (d : Int) (i : Int) = some (litA d (chop (s.data.toList.drop i)) && decide (n + (chop (s.data.toList.drop i)).length = 4))
  | 0, i, K, n, d, hm, hi, hn, hd, hK => by
    obtain ⟨K, rfl⟩ : ∃ j, K = j + 5 := ⟨K - 5, by omega⟩
    have : i = s.size := by omega
    subst this
    have hl : s.data.toList.length = s.size := by simp
    rw [List.drop_of_length_le (by omega)]
    rw [agoraref36_literal.l0, if_pos (by omega), if_pos rfl, agoraref36_literal.j1, if_pos rfl]
    have e : ∀ q : Bool, agoraref36_literal.j2 (K + 3) s (n : Int) (s.size : Int) q = some (!q && decide (n + 1 = 4)) := by
      intro q
      rw [agoraref36_literal.j2]
      cases q with
      | true => rw [if_pos rfl]; rfl
      | false =>
        rw [if_neg (by decide), nat_succ_wrap n (by omega), nat_succ_wrap s.size (by omega), agoraref36_literal.l0, if_neg (by omega)]
        congr 1
        rw [Bool.eq_iff_iff]; simp; omega
    by_cases h1 : d < 1
    · rw [if_pos (by omega), e]; simp [chop, litA]; omega
    · rw [if_neg (by omega), e]
      simp only [chop, litA, List.length_nil, List.all_nil, Bool.and_true, List.length_cons, Nat.add_zero, Nat.zero_add]
      congr 2
      rw [Bool.eq_iff_iff]; simp; omega
  | m + 1, i, K, n, d, hm, hi, hn, hd, hK => by
    obtain ⟨K, rfl⟩ : ∃ j, K = j + 3 := ⟨K - 3, by omega⟩
    have hl : s.data.toList.length = s.size := by simp
    have hlt : i < s.data.toList.length := by omega
    have hb : bt s (i : Int) = ((s.data.toList[i]'hlt).toNat : Int) := by rw [bt_get s i (by omega), get_list s i hlt]
    have hbl := (s.data.toList[i]'hlt).toNat_lt
    have hz : (s.data.toList[i]'hlt = 46) ↔ (s.data.toList[i]'hlt).toNat = 46 := by
      constructor
      · intro h; rw [h]; rfl
      · intro h; exact UInt8.toNat_inj.1 h
    have hg : isDig (s.data.toList[i]'hlt) = decide (48 ≤ (s.data.toList[i]'hlt).toNat ∧ (s.data.toList[i]'hlt).toNat ≤ 57) := rfl
    rw [List.drop_eq_getElem_cons hlt]
    rw [agoraref36_literal.l0, if_pos (by omega), if_neg (by omega), if_pos (by omega), if_pos (by omega), hb]
    generalize s.data.toList[i]'hlt = b at *
    have ih1 := lit_l0 s hs m (i + 1) K (n + 1) 0 (by omega) (by omega) (by omega) (by omega) (by omega)
    have ih2 := lit_l0 s hs m (i + 1) (K + 1) n (d + 1) (by omega) (by omega) (by omega) (by omega) (by omega)
    by_cases h46 : b = 46
    · have h46' := hz.1 h46
      rw [agoraref36_literal.j1, if_pos (by simp; omega)]
      have e : ∀ q : Bool, agoraref36_literal.j2 (K + 1) s (n : Int) (i : Int) q = some (!q && (litA 0 (chop (s.data.toList.drop (i + 1))) && decide (n + 1 + (chop (s.data.toList.drop (i + 1))).length = 4))) := by
        intro q
        rw [agoraref36_literal.j2]
        cases q with
        | true => rw [if_pos rfl]; rfl
        | false =>
          rw [if_neg (by decide), nat_succ_wrap n (by omega), nat_succ_wrap i (by omega)]
          refine Eq.trans ?_ ih1
          rfl
      rw [chop, if_pos h46]
      have hps := litA_zero _ (chop_ne (s.data.toList.drop (i + 1)))
      generalize chop (s.data.toList.drop (i + 1)) = ps at *
      have hfin : ∀ q : Bool, (q = true ↔ (1 ≤ d ∧ d ≤ 3)) → (q && (litA 0 ps && decide (n + 1 + ps.length = 4))) = (litA d ([] :: ps) && decide (n + ([] :: ps).length = 4)) := by
        intro q hq
        rw [hps, litA, Bool.and_assoc]
        have : q = decide (1 ≤ d + ([] : List UInt8).length ∧ d + ([] : List UInt8).length ≤ 3) := by
          rw [Bool.eq_iff_iff, hq]; simp
        rw [this]
        congr 1
        rw [List.all_nil, Bool.true_and]
        congr 1
        rw [Bool.eq_iff_iff]; simp only [decide_eq_true_eq, List.length_cons]; omega
      by_cases h1 : d < 1
      · rw [if_pos (by omega), e, hfin _ (by simp; omega)]
      · rw [if_neg (by omega), e, hfin _ (by simp; omega)]
    · have h46' : ¬ b.toNat = 46 := fun h => h46 (hz.2 h)
      rw [agoraref36_literal.j1, if_neg (by simp; omega), if_pos (by omega), if_pos (by omega), hb]
      have hc : chop (b :: s.data.toList.drop (i + 1)) = match chop (s.data.toList.drop (i + 1)) with | [] => [[b]] | h :: t => (b :: h) :: t := by rw [chop, if_neg h46]
      have hne := chop_ne (s.data.toList.drop (i + 1))
      rw [nat_succ_wrap d (by omega), nat_succ_wrap i (by omega), ih2, hc]
      generalize chop (s.data.toList.drop (i + 1)) = ps at *
      cases ps with
      | nil => exact absurd rfl hne
      | cons h t =>
        simp only [litA, List.length_cons, List.all_cons, hg]
        by_cases h1 : b.toNat < 48
        · rw [if_pos (by omega), decide_eq_false (p := 48 ≤ b.toNat ∧ b.toNat ≤ 57) (by omega)]; simp
        · by_cases h2 : 57 < b.toNat
          · rw [if_neg (by omega), if_pos (by omega), decide_eq_false (p := 48 ≤ b.toNat ∧ b.toNat ≤ 57) (by omega)]; simp
          · rw [if_neg (by omega), if_neg (by omega), decide_eq_true (p := 48 ≤ b.toNat ∧ b.toNat ≤ 57) (by omega), Bool.true_and]
            have e1 : d + 1 + h.length = d + (h.length + 1) := by omega
            rw [e1]
theorem lit_f (s : ByteArray) (hs : s.size ≤ 1000000000) (K : Nat) (hK : 3 * s.size + 5 ≤ K) : agoraref36_literal.f K s = some (aclLiteral s) := by
  unfold agoraref36_literal.f
  have := lit_l0 s hs s.size 0 K 0 0 (by omega) (by omega) (by omega) (by omega) hK
  rw [List.drop_zero] at this
  refine this.trans ?_
  rw [aclLiteral_chop, litA_zero _ (chop_ne _)]
  unfold litB
  rw [Nat.zero_add, Bool.and_comm]
end Go.Proofs.YtcklgalgljmljaaDoor.Q
namespace Go.Proofs.YtcklgalgljmljaaDoor.Q
open Go.RowKit Go.Proofs.YtcklgalgljmljaaDoorW.PrintWords Go.Proofs.YtcklgalgljmljaaDoorW.PrintLast Go.Proofs.YtcklgalgljmljaaDoorW.PrintMore
def Okay (x : JS) : Prop := x.f3.length ≤ 100 ∧ x.f4.length ≤ 300 ∧ x.f2.size ≤ 2000 ∧ ∀ y ∈ x.f3, y.size ≤ 300
def Okay2 (x : JS) : Prop := Okay x ∧ ∀ y ∈ x.f4, Okay y
def OkayN : Nat → JS → Prop
  | 0, _ => True
  | n + 1, x => Okay x ∧ ∀ y ∈ x.f4, OkayN n y
theorem OkayN.two {x : JS} {n : Nat} (h : OkayN (n + 2) x) : Okay2 x := ⟨h.1, fun y hy => (h.2 y hy).1⟩
theorem OkayN.less {x : JS} : ∀ {n m : Nat}, m ≤ n → OkayN n x → OkayN m x := by
  intro n
  induction n generalizing x with
  | zero => intro m hm h; cases m with
    | zero => exact h
    | succ m => omega
  | succ n ih =>
    intro m hm h
    cases m with
    | zero => trivial
    | succ m => exact ⟨h.1, fun y hy => ih (by omega) (h.2 y hy)⟩
theorem left_l1 (d : Nat) (hd : d ≤ 20) (ih : ∀ (x : JS) (n : Int), n ≤ 300 → ∃ K r, agoralaw05_left.f K x.f0 x.f1 x.f2 x.f3 x.f4 n (d : Int) = some r ∧ -1 ≤ r ∧ r ≤ 300 ∧ (0 ≤ r → OkayN d x)) (x : JS) (hl : x.f4.length ≤ 300) :
    ∀ (m i : Nat) (n : Int), m = x.f4.length - i → i ≤ x.f4.length → -1 ≤ n → n ≤ 300 → ∃ K r, agoralaw05_left.l1 K n ((d + 1 : Nat) : Int) (i : Int) x.f0 x.f1 x.f2 x.f3 x.f4 = some r ∧ -1 ≤ r ∧ r ≤ 300 ∧ (0 ≤ r → ∀ y ∈ x.f4.drop i, OkayN d y)
  | 0, i, n, hm, hi, h1, h2 => by
    refine ⟨1, n, ?_, h1, h2, fun _ y hy => ?_⟩
    · rw [agoralaw05_left.l1, if_neg (by omega)]
    · rw [List.drop_of_length_le (by omega)] at hy; cases hy
  | m + 1, i, n, hm, hi, h1, h2 => by
    have hlt : i < x.f4.length := by omega
    have hrd : rd_T25 x.f4 (i : Int) = x.f4[i] := by simp [rd_T25, hlt]
    by_cases h0 : n < 0
    · refine ⟨1, n, ?_, h1, h2, fun h => by omega⟩
      rw [agoralaw05_left.l1, if_pos (by omega), if_neg (by omega)]
    · obtain ⟨K1, r1, e1, a1, b1, c1⟩ := ih x.f4[i] n h2
      obtain ⟨K2, r2, e2, a2, b2, c2⟩ := left_l1 d hd ih x hl m (i + 1) r1 (by omega) (by omega) a1 b1
      have hw : wrap64 (((d + 1 : Nat) : Int) - 1) = (d : Int) := by rw [wrap_small _ (by omega) (by omega)]; omega
      refine ⟨K1 + K2 + 1, r2, ?_, a2, b2, fun h => ?_⟩
      · rw [agoralaw05_left.l1, if_pos (by omega), if_pos (by omega), if_pos (by omega), hrd, hw, at_rounds (fun k => agoralaw05_left.mono _ _ _ _ _ _ _ k) (Nat.le_add_right K1 K2) e1, Option.bind_some, nat_succ_wrap i (by omega)]
        exact at_rounds (fun k => (agoralaw05_left.mono_l k).2.2.2 _ _ _ _ _ _ _ _) (Nat.le_add_left K2 K1) e2
      · intro y hy
        rw [List.drop_eq_getElem_cons hlt] at hy
        have hr1 : 0 ≤ r1 := by
          by_cases hr : 0 ≤ r1
          · exact hr
          · exfalso
            have : r2 = r1 := by
              have q : agoralaw05_left.l1 (K2 + 1) r1 ((d + 1 : Nat) : Int) ((i + 1 : Nat) : Int) x.f0 x.f1 x.f2 x.f3 x.f4 = some r1 := by
                rw [agoralaw05_left.l1]
                by_cases z : ((i + 1 : Nat) : Int) < (x.f4.length : Int)
                · rw [if_pos z, if_neg (by omega)]
                · rw [if_neg z]
              have q2 := at_rounds (fun k => (agoralaw05_left.mono_l k).2.2.2 _ _ _ _ _ _ _ _) (Nat.le_succ K2) e2
              rw [q] at q2; injection q2 with q2; exact q2.symm
            omega
        rcases List.mem_cons.1 hy with rfl | hy
        · exact c1 hr1
        · exact c2 h y hy
theorem left_l0 (d : Nat) (x : JS) (hl : x.f3.length ≤ 100) (Q : Int → Prop) (n : Int) (h : ∃ K r, agoralaw05_left.l1 K n (d : Int) 0 x.f0 x.f1 x.f2 x.f3 x.f4 = some r ∧ -1 ≤ r ∧ r ≤ 300 ∧ (0 ≤ r → Q r)) :
    ∀ (m i : Nat), m = x.f3.length - i → i ≤ x.f3.length → ∃ K r, agoralaw05_left.l0 K n (d : Int) (i : Int) x.f0 x.f1 x.f2 x.f3 x.f4 = some r ∧ -1 ≤ r ∧ r ≤ 300 ∧ (0 ≤ r → Q r ∧ ∀ y ∈ x.f3.drop i, y.size ≤ 300)
  | 0, i, hm, hi => by
    obtain ⟨K, r, e, q1, q2, q3⟩ := h
    refine ⟨K + 1, r, ?_, q1, q2, fun h => ⟨q3 h, fun y hy => by rw [List.drop_of_length_le (by omega)] at hy; cases hy⟩⟩
    rw [agoralaw05_left.l0, if_neg (by omega)]; exact e
  | m + 1, i, hm, hi => by
    obtain ⟨K, r, e, q1, q2, q3⟩ := left_l0 d x hl Q n h m (i + 1) (by omega) (by omega)
    have hlt : i < x.f3.length := by omega
    have hrd : rdOf ByteArray.empty x.f3 (i : Int) = x.f3[i] := by simp [rdOf, hlt]
    by_cases c : ((rdOf ByteArray.empty x.f3 (i : Int)).size : Int) > 300
    · refine ⟨1, -1, ?_, by omega, by omega, by omega⟩
      rw [agoralaw05_left.l0, if_pos (by omega), if_pos (by omega), if_pos c]
    · refine ⟨K + 1, r, ?_, q1, q2, fun h => ⟨(q3 h).1, fun y hy => ?_⟩⟩
      rotate_left
      · rw [List.drop_eq_getElem_cons hlt] at hy
        rcases List.mem_cons.1 hy with rfl | hy
        · rw [hrd] at c; omega
        · exact (q3 h).2 y hy
      rw [agoralaw05_left.l0, if_pos (by omega), if_pos (by omega), if_neg c, nat_succ_wrap i (by omega)]; exact e
theorem left_f : ∀ (d : Nat), d ≤ 20 → ∀ (x : JS) (n : Int), n ≤ 300 → ∃ K r, agoralaw05_left.f K x.f0 x.f1 x.f2 x.f3 x.f4 n (d : Int) = some r ∧ -1 ≤ r ∧ r ≤ 300 ∧ (0 ≤ r → OkayN d x)
  | 0, _, x, n, hn => by
    refine ⟨2, -1, ?_, by omega, by omega, by omega⟩
    rw [agoralaw05_left.f]
    by_cases h1 : n < 1
    · rw [if_pos h1, agoralaw05_left.j0, if_pos rfl]
    · rw [if_neg h1, if_pos (by decide), agoralaw05_left.j0, if_pos rfl]
  | d + 1, hd, x, n, hn => by
    have bad : agoralaw05_left.j0 1 n ((d + 1 : Nat) : Int) true x.f0 x.f1 x.f2 x.f3 x.f4 = some (-1) := by rw [agoralaw05_left.j0, if_pos rfl]
    have fin : ∀ {P : Prop}, agoralaw05_left.f 2 x.f0 x.f1 x.f2 x.f3 x.f4 n ((d + 1 : Nat) : Int) = some (-1) → ∃ K r, agoralaw05_left.f K x.f0 x.f1 x.f2 x.f3 x.f4 n ((d + 1 : Nat) : Int) = some r ∧ -1 ≤ r ∧ r ≤ 300 ∧ (0 ≤ r → P) := fun e => ⟨2, -1, e, by omega, by omega, by omega⟩
    by_cases h1 : n < 1
    · exact fin (by rw [agoralaw05_left.f, if_pos h1]; exact bad)
    by_cases h2 : (x.f2.size : Int) > 2000
    · exact fin (by rw [agoralaw05_left.f, if_neg h1, if_neg (by omega), if_pos h2]; exact bad)
    by_cases h3 : (x.f3.length : Int) > 100
    · exact fin (by rw [agoralaw05_left.f, if_neg h1, if_neg (by omega), if_neg h2, if_pos h3]; exact bad)
    by_cases h4 : (x.f4.length : Int) > 300
    · exact fin (by rw [agoralaw05_left.f, if_neg h1, if_neg (by omega), if_neg h2, if_neg h3, decide_eq_true h4]; exact bad)
    have hw : wrap64 (n - 1) = n - 1 := wrap_small _ (by omega) (by omega)
    have hq : ∃ K r, agoralaw05_left.l1 K (n - 1) ((d + 1 : Nat) : Int) 0 x.f0 x.f1 x.f2 x.f3 x.f4 = some r ∧ -1 ≤ r ∧ r ≤ 300 ∧ (0 ≤ r → ∀ y ∈ x.f4, OkayN d y) := by
      obtain ⟨K, r, e, a, b, c⟩ := left_l1 d (by omega) (left_f d (by omega)) x (by omega) x.f4.length 0 (n - 1) (by omega) (by omega) (by omega) (by omega)
      exact ⟨K, r, e, a, b, fun h y hy => c h y (by simpa using hy)⟩
    obtain ⟨K, r, e, q1, q2, q3⟩ := left_l0 (d + 1) x (by omega) (fun _ => ∀ y ∈ x.f4, OkayN d y) (n - 1) hq x.f3.length 0 (by omega) (by omega)
    refine ⟨K + 2, r, ?_, q1, q2, fun h => ⟨⟨by omega, by omega, by omega, fun y hy => (q3 h).2 y (by simpa using hy)⟩, (q3 h).1⟩⟩
    rw [agoralaw05_left.f, if_neg h1, if_neg (by omega), if_neg h2, if_neg h3, decide_eq_false h4, agoralaw05_left.j0, if_neg (by decide), hw]
    exact e
theorem small_total (x : JS) : ∃ K b, agoralaw36_small.f K x.f0 x.f1 x.f2 x.f3 x.f4 = some b ∧ (b = true → OkayN 20 x) := by
  obtain ⟨K, r, e, _, _, c⟩ := left_f 20 (by omega) x 300 (by omega)
  refine ⟨K + 4, decide (r ≥ 0), ?_, fun h => c (of_decide_eq_true h)⟩
  unfold agoralaw36_small.f agoralaw05_Few.f
  have e' : agoralaw05_left.f K x.f0 x.f1 x.f2 x.f3 x.f4 300 20 = some r := e
  rw [show ((⟨#[]⟩ : ByteArray).size : Int) = 0 from rfl, show wrap64 (wrap64 (wrap64 (wrap64 ((0 : Int) + 0) + 0) + 0) + 0) = 0 from by simp [wrap_small]]
  rw [if_neg (by decide), if_neg (by decide), if_neg (by decide)]
  rw [show decide (((([] : List S48).length : Nat) : Int) > 30) = false from rfl, agoralaw05_Few.j0, if_neg (by decide), agoralaw05_Few.l0, if_neg (by decide), agoralaw05_Few.l1, if_neg (by decide), agoralaw05_Few.l2, if_neg (by decide)]
  rw [e']; rfl
end Go.Proofs.YtcklgalgljmljaaDoor.Q
namespace Go.Proofs.YtcklgalgljmljaaDoor.Q
open Go.RowKit Go.Proofs.YtcklgalgljmljaaDoorW.PrintWords Go.Proofs.YtcklgalgljmljaaDoorW.PrintLast Go.Proofs.YtcklgalgljmljaaDoorW.PrintMore
def allowedB (kd : Int) (keys : List ByteArray) (list : List JS) (s : ByteArray) : Bool :=
  isServer s && (!aclBars (aclValue kd keys list kAli) s && (!(aclList (aclValue kd keys list kDeny)).any (fun p => foldB p s) && (aclList (aclValue kd keys list kAllow)).any (fun p => foldB p s)))
theorem both_allowed (kd n : Int) (t : ByteArray) (keys : List ByteArray) (list : List JS) (s : ByteArray) (hs : s.size ≤ 1000000) (hk : keys.length ≤ 1000000) (hv : ∀ key x, aclValue kd keys list key = some x → x.f4.length ≤ 1000000) :
    ∃ K, ∀ k, K ≤ k → acl_Allowed.f k kd n t keys list s = some (allowedB kd keys list s) ∧ agoraref36_Allowed.f k kd n t keys list s = some (allowedB kd keys list s) := by
  obtain ⟨Kd, hd⟩ := fold_all s (by omega) (aclList (aclValue kd keys list kDeny)) (fun x hx => by have := aclList_size _ x hx; omega)
  obtain ⟨Ka, ha⟩ := fold_all s (by omega) (aclList (aclValue kd keys list kAllow)) (fun x hx => by have := aclList_size _ x hx; omega)
  have ld := aclList_len (aclValue kd keys list kDeny)
  have la := aclList_len (aclValue kd keys list kAllow)
  refine ⟨Kd + Ka + 10000000, fun k hK => ⟨?_, ?_⟩⟩
  · unfold acl_Allowed.f allowedB
    rw [if_neg (by omega), if_neg (by omega)]
    rw [aclOne_some _ (fun p => foldB p s) _ (fun x hx => (hd k (by omega) x hx).1), aclOne_some _ (fun p => foldB p s) _ (fun x hx => (ha k (by omega) x hx).1), Option.bind_some]
    cases isServer s
    · rw [if_pos rfl]; rfl
    · rw [if_neg (by decide)]
      cases aclBars (aclValue kd keys list kAli) s
      · rw [if_neg (by decide)]
        cases (aclList (aclValue kd keys list kDeny)).any (fun p => foldB p s)
        · rw [if_neg (by decide)]; rfl
        · rw [if_pos rfl]; rfl
      · rw [if_pos rfl]; rfl
  · obtain ⟨k, rfl⟩ : ∃ j, k = j + 1 := ⟨k - 1, by omega⟩
    have hj : ∀ q : Bool, agoraref36_Allowed.j0 (k + 1) s q kd n t keys list = some (!q && (!(aclList (aclValue kd keys list kDeny)).any (fun p => foldB p s) && (aclList (aclValue kd keys list kAllow)).any (fun p => foldB p s))) := by
      intro q
      rw [agoraref36_Allowed.j0]
      cases q
      · rw [if_neg (by decide)]
        rw [show (⟨#[100, 101, 110, 121]⟩ : ByteArray) = kDeny from rfl, show (⟨#[97, 108, 108, 111, 119]⟩ : ByteArray) = kAllow from rfl]
        rw [list_f kd n t keys (by omega) list kDeny (fun x h => by have := hv _ x h; omega) k (by omega) (fun x h => by have := hv _ x h; omega), Option.bind_some]
        rw [fits_f _ (by omega) s Kd (fun k hk x hx => (hd k hk x hx).2) k (by omega), Option.bind_some]
        rw [list_f kd n t keys (by omega) list kAllow (fun x h => by have := hv _ x h; omega) k (by omega) (fun x h => by have := hv _ x h; omega), Option.bind_some]
        rw [fits_f _ (by omega) s Ka (fun k hk x hx => (ha k hk x hx).2) k (by omega), Option.bind_some]
        cases (aclList (aclValue kd keys list kDeny)).any (fun p => foldB p s)
        · rw [if_neg (by decide)]; rfl
        · rw [if_pos rfl]; rfl
      · rw [if_pos rfl]; rfl
    unfold agoraref36_Allowed.f allowedB
    rw [server_f s (by omega) _ (by omega), Option.bind_some, show (⟨#[97, 108, 108, 111, 119, 95, 105, 112, 95, 108, 105, 116, 101, 114, 97, 108, 115]⟩ : ByteArray) = kAli from rfl, get_f kd n t keys (by omega) list kAli (k + 1) (by omega), Option.bind_some, lit_f s (by omega) _ (by omega), Option.bind_some]
    simp only [hj]
    cases isServer s
    · rw [if_neg (by decide)]; rfl
    · rw [if_pos rfl, Bool.true_and]
      cases hl : aclLiteral s
      · rw [if_neg (by decide)]
        cases aclValue kd keys list kAli with
        | none => rfl
        | some v => simp [aclBars, hl]
      · rw [if_pos rfl]
        cases aclValue kd keys list kAli with
        | none => rfl
        | some v =>
          simp only [getOf, aclBars, hl]
          by_cases h1 : v.f0 = 1
          · simp [h1]
          · simp [h1]
theorem okay_value (x : JS) (h : Okay2 x) (key : ByteArray) (y : JS) (hy : aclValue x.f0 x.f3 x.f4 key = some y) : y.f4.length ≤ 300 := by
  unfold aclValue at hy
  split at hy
  · cases hy
  · split at hy
    · cases hy
    · split at hy
      · cases hy
      · next h1 h2 =>
        injection hy with hy
        obtain ⟨i, hi⟩ := Int.eq_ofNat_of_zero_le (Int.not_lt.1 h1)
        rw [hi] at hy h2
        have hlt : i < x.f4.length := by omega
        have : rd_T25 x.f4 ((i : Nat) : Int) = x.f4[i] := by simp [rd_T25, hlt]
        rw [← hy]
        rw [this]
        exact (h.2 _ (List.getElem_mem hlt)).2.1
theorem aw1 : allowedB 5 awK awL awS1 = true := by kernel_rfl
theorem aw2 : allowedB 5 awK awL awEvil = false := by kernel_rfl
theorem aw3 : allowedB 5 awK awL awIp = true := by kernel_rfl
theorem aw4 : allowedB 5 awK2 awL2 awIp = false := by kernel_rfl
theorem aw5 : allowedB 5 awK2 awL2 awS1 = true := by kernel_rfl
theorem value_mem (kd : Int) (keys : List ByteArray) (list : List JS) (key : ByteArray) (x : JS) (h : aclValue kd keys list key = some x) : x ∈ list := by
  unfold aclValue at h
  split at h
  · cases h
  · split at h
    · cases h
    · split at h
      · cases h
      · next h1 h2 =>
        injection h with h
        obtain ⟨i, hi⟩ := Int.eq_ofNat_of_zero_le (Int.not_lt.1 h1)
        rw [hi] at h h2
        have hlt : i < list.length := by omega
        have : rd_T25 list ((i : Nat) : Int) = list[i] := by simp [rd_T25, hlt]
        rw [← h, this]
        exact List.getElem_mem hlt
theorem awL_small : ∀ x ∈ awL, x.f4.length ≤ 1000000 := by
  intro x hx
  simp only [awL, List.mem_cons, List.not_mem_nil, or_false] at hx
  rcases hx with rfl | rfl <;> simp [strsJ]
theorem awL2_small : ∀ x ∈ awL2, x.f4.length ≤ 1000000 := by
  intro x hx
  unfold awL2 at hx
  rcases List.mem_append.1 hx with h | h
  · exact awL_small x h
  · simp only [List.mem_cons, List.not_mem_nil, or_false] at h
    subst h; simp
theorem awake_true : ∃ K, ∀ k, K ≤ k → agoralaw36_awake.f k = some true := by
  have g1 := fun s hs => both_allowed 5 0 ⟨#[]⟩ awK awL s hs (by decide) (fun key x h => awL_small x (value_mem _ _ _ _ _ h))
  have g2 := fun s hs => both_allowed 5 0 ⟨#[]⟩ awK2 awL2 s hs (by decide) (fun key x h => awL2_small x (value_mem _ _ _ _ _ h))
  obtain ⟨K1, h1⟩ := g1 awS1 (by decide)
  obtain ⟨K2, h2⟩ := g1 awEvil (by decide)
  obtain ⟨K3, h3⟩ := g1 awIp (by decide)
  obtain ⟨K4, h4⟩ := g2 awIp (by decide)
  obtain ⟨K5, h5⟩ := g2 awS1 (by decide)
  refine ⟨K1 + K2 + K3 + K4 + K5, fun k hk => ?_⟩
  unfold agoralaw36_awake.f
  rw [(h1 k (by omega)).1, (h2 k (by omega)).1, (h3 k (by omega)).1, (h4 k (by omega)).1, (h5 k (by omega)).1, aw1, aw2, aw3, aw4, aw5]
  rfl
end Go.Proofs.YtcklgalgljmljaaDoor.Q
namespace Go.Proofs.YtcklgalgljmljaaDoor.Q
open Go.RowKit Go.Proofs.YtcklgalgljmljaaDoorW.PrintWords Go.Proofs.YtcklgalgljmljaaDoorW.PrintLast Go.Proofs.YtcklgalgljmljaaDoorW.PrintMore
def mPairs (keys : List ByteArray) (list : List JS) (key : ByteArray) (i : Nat) : List (ByteArray × JS) := ((keys.zip list).take i).filter (fun q => !decide (q.1.toList = key.toList))
def lk : List (ByteArray × JS) → ByteArray → Option JS
  | [], _ => none
  | q :: z, k => if q.1.toList = k.toList then some q.2 else lk z k
theorem idx_lk (k : ByteArray) : ∀ (keys : List ByteArray) (list : List JS) (off : Nat), (aclIdx keys k (off : Int) = -1 ∧ lk (keys.zip list) k = none) ∨ (∃ j, aclIdx keys k (off : Int) = ((off + j : Nat) : Int) ∧ (∀ h : j < list.length, lk (keys.zip list) k = some list[j]) ∧ (list.length ≤ j → lk (keys.zip list) k = none))
  | [], list, off => Or.inl ⟨rfl, by simp [lk]⟩
  | a :: keys, [], off => by
    have h0 : lk ((a :: keys).zip []) k = none := by simp [lk]
    unfold aclIdx
    by_cases c : a.toList = k.toList
    · rw [if_pos c]; exact Or.inr ⟨0, rfl, fun h => absurd h (by simp), fun _ => h0⟩
    · rw [if_neg c]
      rcases idx_lk k keys [] (off + 1) with ⟨h1, _⟩ | ⟨j, h1, _, _⟩
      · left; refine ⟨?_, h0⟩
        have : ((off + 1 : Nat) : Int) = (off : Int) + 1 := by omega
        rw [← this]; exact h1
      · right; refine ⟨j + 1, ?_, fun h => absurd h (by simp), fun _ => h0⟩
        have : ((off + 1 : Nat) : Int) = (off : Int) + 1 := by omega
        rw [← this, h1]; congr 1; omega
  | a :: keys, b :: list, off => by
    unfold aclIdx
    rw [List.zip_cons_cons, lk]
    by_cases c : a.toList = k.toList
    · rw [if_pos c, if_pos c]; exact Or.inr ⟨0, rfl, fun _ => rfl, fun h => absurd h (by simp)⟩
    · rw [if_neg c, if_neg c]
      have : ((off + 1 : Nat) : Int) = (off : Int) + 1 := by omega
      rcases idx_lk k keys list (off + 1) with ⟨h1, h2⟩ | ⟨j, h1, h2, h3⟩
      · left; exact ⟨by rw [← this]; exact h1, h2⟩
      · right; refine ⟨j + 1, by rw [← this, h1]; congr 1; omega, fun h => ?_, fun h => h3 (by simpa using h)⟩
        rw [h2 (by simpa using h)]; rfl
theorem value_lk (keys : List ByteArray) (list : List JS) (k : ByteArray) : aclValue 5 keys list k = lk (keys.zip list) k := by
  unfold aclValue
  rw [if_neg (by decide)]
  have h := idx_lk k keys list 0
  rw [show ((0 : Nat) : Int) = 0 from rfl] at h
  rcases h with ⟨h1, h2⟩ | ⟨j, h1, h2, h3⟩
  · rw [h1, if_pos (by decide), h2]
  · rw [h1, if_neg (by omega)]
    by_cases c : j < list.length
    · rw [if_neg (by omega), h2 c]
      simp [rd_T25, c]
    · rw [if_pos (by omega), h3 (by omega)]
theorem zip_maps : ∀ z : List (ByteArray × JS), (z.map Prod.fst).zip (z.map Prod.snd) = z
  | [] => rfl
  | q :: z => by rw [List.map_cons, List.map_cons, List.zip_cons_cons, zip_maps z]
theorem zip_maps_snoc (z : List (ByteArray × JS)) (a : ByteArray) (b : JS) : (z.map Prod.fst ++ [a]).zip (z.map Prod.snd ++ [b]) = z ++ [(a, b)] := by
  have := zip_maps (z ++ [(a, b)])
  simpa using this
theorem lk_filter (key k : ByteArray) (hne : k.toList ≠ key.toList) : ∀ (z e : List (ByteArray × JS)), (∀ q ∈ e, q.1.toList = key.toList) → lk (z.filter (fun q => !decide (q.1.toList = key.toList)) ++ e) k = lk z k
  | [], e, he => by
    have : ∀ e : List (ByteArray × JS), (∀ q ∈ e, q.1.toList = key.toList) → lk e k = none := by
      intro e
      induction e with
      | nil => intro _; rfl
      | cons q e ih =>
        intro he
        rw [lk, if_neg (by rw [he q (List.mem_cons_self ..)]; exact fun h => hne h.symm)]
        exact ih (fun x hx => he x (List.mem_cons_of_mem _ hx))
    exact this e he
  | q :: z, e, he => by
    rw [List.filter_cons]
    by_cases c : q.1.toList = key.toList
    · rw [if_neg (by simp [c]), lk_filter key k hne z e he, lk, if_neg (by rw [c]; exact fun h => hne h.symm)]
    · rw [if_pos (by simp [c]), List.cons_append, lk, lk, lk_filter key k hne z e he]
theorem lk_none (key : ByteArray) : ∀ z : List (ByteArray × JS), lk (z.filter (fun q => !decide (q.1.toList = key.toList))) key = none
  | [] => rfl
  | q :: z => by
    rw [List.filter_cons]
    by_cases c : q.1.toList = key.toList
    · rw [if_neg (by simp [c])]; exact lk_none key z
    · rw [if_pos (by simp [c]), lk, if_neg c]; exact lk_none key z
theorem lk_last (key : ByteArray) (v : JS) : ∀ z : List (ByteArray × JS), lk (z.filter (fun q => !decide (q.1.toList = key.toList)) ++ [(key, v)]) key = some v
  | [] => by simp [lk]
  | q :: z => by
    rw [List.filter_cons]
    by_cases c : q.1.toList = key.toList
    · rw [if_neg (by simp [c])]; exact lk_last key v z
    · rw [if_pos (by simp [c]), List.cons_append, lk, if_neg c]; exact lk_last key v z
theorem mPairs_all (keys : List ByteArray) (list : List JS) (key : ByteArray) (i : Nat) (h : min keys.length list.length ≤ i) : mPairs keys list key i = (keys.zip list).filter (fun q => !decide (q.1.toList = key.toList)) := by
  unfold mPairs; rw [List.take_of_length_le (by rw [List.length_zip]; exact h)]
abbrev mK (keys : List ByteArray) (list : List JS) (key : ByteArray) (i : Nat) : List ByteArray := (mPairs keys list key i).map Prod.fst
abbrev mL (keys : List ByteArray) (list : List JS) (key : ByteArray) (i : Nat) : List JS := (mPairs keys list key i).map Prod.snd
section
variable (keys : List ByteArray) (list : List JS) (key : ByteArray) (v : JS) (i : Nat) (h : min keys.length list.length ≤ i)
include h
theorem more_other (k : ByteArray) (hne : k.toList ≠ key.toList) : aclValue 5 (mK keys list key i ++ [key]) (mL keys list key i ++ [v]) k = aclValue 5 keys list k := by
  rw [value_lk, value_lk, zip_maps_snoc, mPairs_all _ _ _ _ h]
  exact lk_filter key k hne _ _ (fun q hq => by simp at hq; rw [hq])
theorem more_key : aclValue 5 (mK keys list key i ++ [key]) (mL keys list key i ++ [v]) key = some v := by
  rw [value_lk, zip_maps_snoc, mPairs_all _ _ _ _ h]
  exact lk_last key v _
theorem less_key : aclValue 5 (mK keys list key i) (mL keys list key i) key = none := by
  rw [value_lk, zip_maps, mPairs_all _ _ _ _ h]
  exact lk_none key _
end
theorem skips_str (a : ByteArray) (n : Nat) (ha : a.size ≤ 256) (hn : n ≠ 100) : ¬ aclSkips (strJ a) n = true := by
  unfold aclSkips
  simp only [Bool.or_eq_true, decide_eq_true_eq]
  rintro ((h | h) | h)
  · exact h rfl
  · have : (strJ a).f2 = a := rfl
    rw [this] at h; omega
  · exact hn h
theorem texts_strs : ∀ (l : List ByteArray) (n : Nat), (∀ x ∈ l, x.size ≤ 256) → n + l.length ≤ 100 → aclTexts (l.map strJ) n = l
  | [], _, _, _ => rfl
  | a :: l, n, h, hn => by
    have ha := h a (List.mem_cons_self ..)
    simp only [List.length_cons] at hn
    rw [List.map_cons, aclTexts, if_neg (skips_str a n ha (by omega)), texts_strs l (n + 1) (fun x hx => h x (List.mem_cons_of_mem _ hx)) (by omega)]
    rfl
theorem list_strs (l : List ByteArray) (h : ∀ x ∈ l, x.size ≤ 256) (hn : l.length ≤ 100) : aclList (some (strsJ l)) = l := by
  simp only [aclList, strsJ]
  rw [if_pos trivial]; exact texts_strs l 0 h (by omega)
theorem list_first (p : ByteArray) (l : List ByteArray) (h : p.size ≤ 256) : p ∈ aclList (some (strsJ (p :: l))) := by
  simp only [aclList, strsJ]
  rw [if_pos trivial, List.map_cons, aclTexts, if_neg (skips_str p 0 h (by decide))]
  exact List.mem_cons_self ..
theorem kne1 : kAli.toList ≠ kAllow.toList := by rw [ByteArray.toList_eq, ByteArray.toList_eq]; decide
theorem kne2 : kAli.toList ≠ kDeny.toList := by rw [ByteArray.toList_eq, ByteArray.toList_eq]; decide
theorem kne3 : kDeny.toList ≠ kAllow.toList := by rw [ByteArray.toList_eq, ByteArray.toList_eq]; decide
section
variable (keys : List ByteArray) (list : List JS) (s p : ByteArray) (i : Nat) (h : min keys.length list.length ≤ i)
include h
theorem more_allow (hp : p.size ≤ 256) (hn : (aclList (aclValue 5 keys list kAllow)).length ≤ 90) (hin : allowedB 5 keys list s = true) :
    allowedB 5 (mK keys list kAllow i ++ [kAllow]) (mL keys list kAllow i ++ [strsJ (p :: aclList (aclValue 5 keys list kAllow))]) s = true := by
  unfold allowedB at hin ⊢
  rw [more_other keys list kAllow _ i h kAli kne1, more_other keys list kAllow _ i h kDeny kne3, more_key keys list kAllow _ i h]
  rw [list_strs _ (fun x hx => by
    rcases List.mem_cons.1 hx with rfl | hx
    · exact hp
    · exact aclList_size _ x hx) (by simp only [List.length_cons]; omega)]
  simp only [Bool.and_eq_true] at hin ⊢
  refine ⟨hin.1, hin.2.1, hin.2.2.1, ?_⟩
  rw [List.any_cons, hin.2.2.2, Bool.or_true]
theorem more_deny (hp : p.size ≤ 256) (hn : (aclList (aclValue 5 keys list kDeny)).length ≤ 90) (hin : allowedB 5 keys list s = false) :
    allowedB 5 (mK keys list kDeny i ++ [kDeny]) (mL keys list kDeny i ++ [strsJ (p :: aclList (aclValue 5 keys list kDeny))]) s = false := by
  rw [Bool.eq_false_iff] at hin ⊢
  intro hm
  apply hin
  unfold allowedB at hm ⊢
  rw [more_other keys list kDeny _ i h kAli kne2, more_other keys list kDeny _ i h kAllow (Ne.symm kne3), more_key keys list kDeny _ i h] at hm
  rw [list_strs _ (fun x hx => by
    rcases List.mem_cons.1 hx with rfl | hx
    · exact hp
    · exact aclList_size _ x hx) (by simp only [List.length_cons]; omega)] at hm
  simp only [Bool.and_eq_true] at hm ⊢
  refine ⟨hm.1, hm.2.1, ?_, hm.2.2.2⟩
  have h3 := hm.2.2.1
  rw [List.any_cons] at h3
  simp only [Bool.not_eq_true', Bool.or_eq_false_iff] at h3 ⊢
  exact h3.2
theorem less_allow : allowedB 5 (mK keys list kAllow i) (mL keys list kAllow i) s = false := by
  unfold allowedB
  rw [less_key keys list kAllow i h]
  simp [aclList]
theorem deny_self (hself : isServer s = true → foldB s s = true) (hs : s.size ≤ 256) (L : List ByteArray) : allowedB 5 (mK keys list kDeny i ++ [kDeny]) (mL keys list kDeny i ++ [strsJ (s :: L)]) s = false := by
  unfold allowedB
  rw [more_key keys list kDeny _ i h]
  cases hv : isServer s with
  | false => rfl
  | true =>
    have : (aclList (some (strsJ (s :: L)))).any (fun p => foldB p s) = true := List.any_eq_true.2 ⟨s, list_first s L hs, hself hv⟩
    rw [this]; simp
end
theorem mtB_self (l : List GL) (h : ∀ x ∈ l, gStar x = false) : gM l l = true := by
  induction l with
  | nil => rfl
  | cons a l ih =>
    rw [gM, mtB_one _ _ _ _ _ (h a (List.mem_cons_self ..))]
    rw [show gOk a a = true by simp [gOk], Bool.true_and]
    exact ih (fun x hx => h x (List.mem_cons_of_mem _ hx))
theorem glets_mem (s : ByteArray) : ∀ f pos, ∀ x ∈ glets s f pos, ∃ i, i < s.size ∧ x = glet s i
  | 0, _, x, hx => by simp [glets] at hx
  | f + 1, pos, x, hx => by
    unfold glets at hx
    by_cases h : pos < s.size
    · rw [if_pos h] at hx
      rcases List.mem_cons.1 hx with rfl | hx
      · exact ⟨pos, h, rfl⟩
      · exact glets_mem s f _ x hx
    · rw [if_neg h] at hx; cases hx
theorem server_self (s : ByteArray) (h : isServer s = true) : foldB s s = true := by
  unfold foldB
  apply mtB_self
  intro x hx
  obtain ⟨y, hy, rfl⟩ := List.mem_map.1 hx
  obtain ⟨i, hi, rfl⟩ := glets_mem s _ _ y hy
  unfold isServer allB at h
  rw [Bool.and_eq_true, List.all_eq_true] at h
  have hb := h.2 i (List.mem_range.2 hi)
  rw [bt_get s i hi] at hb
  have hlt : 45 ≤ (s.get! i).toNat ∧ (s.get! i).toNat ≤ 122 := by
    unfold idServer1 idSmall at hb
    simp only [Bool.or_eq_true, decide_eq_true_eq] at hb
    omega
  rw [glet_of s i hi, decode_ascii s i (by omega)]
  unfold gl_of
  rw [if_neg (by simp only; omega)]
  unfold glow gStar
  split
  · simp; omega
  · simp; omega
end Go.Proofs.YtcklgalgljmljaaDoor.Q
namespace Go.Proofs.YtcklgalgljmljaaDoor.Q
open Go.RowKit Go.Proofs.YtcklgalgljmljaaDoorW.PrintWords Go.Proofs.YtcklgalgljmljaaDoorW.PrintLast Go.Proofs.YtcklgalgljmljaaDoorW.PrintMore
theorem bad_l0 (s : ByteArray) (hs : s.size ≤ 1000000000) : ∀ (m i K : Nat), s.size - i ≤ m → m + 11 ≤ K → ∃ r, agoraref01_Bad.l0 K s (i : Int) = some r
  | 0, i, K, hm, hK => by
    obtain ⟨K, rfl⟩ : ∃ j, K = j + 1 := ⟨K - 1, by omega⟩
    exact ⟨-1, by rw [agoraref01_Bad.l0, if_neg (by omega)]⟩
  | m + 1, i, K, hm, hK => by
    obtain ⟨K, rfl⟩ : ∃ j, K = j + 1 := ⟨K - 1, by omega⟩
    by_cases h : i < s.size
    · obtain ⟨rc, rn, hw, hr⟩ := rune_up s i (by omega) h
      have hd := decode_width s i h
      rw [agoraref01_Bad.l0, if_pos (by omega), hr K (by omega)]
      by_cases h0 : rn = 0
      · exact ⟨(i : Int), by rw [Option.bind_some, if_pos h0]⟩
      · have hrn : rn = (((Utf8.decode s i).2 : Nat) : Int) := by
          rcases hw with ⟨h1, _⟩ | ⟨h1, _⟩
          · exact absurd h1 h0
          · exact h1
        have hx : wrap64 ((i : Int) + rn) = ((i + (Utf8.decode s i).2 : Nat) : Int) := by rw [hrn, wrap_small _ (by omega) (by omega)]; omega
        obtain ⟨r, e⟩ := bad_l0 s hs m (i + (Utf8.decode s i).2) K (by omega) (by omega)
        exact ⟨r, by rw [Option.bind_some, if_neg h0, hx]; exact e⟩
    · exact ⟨-1, by rw [agoraref01_Bad.l0, if_neg (by omega)]⟩
theorem bad_f (s : ByteArray) (hs : s.size ≤ 1000000000) (K : Nat) (hK : s.size + 11 ≤ K) : ∃ r, agoraref01_Bad.f K s = some r := by
  unfold agoraref01_Bad.f
  exact bad_l0 s hs s.size 0 K (by omega) hK
theorem keys_l1 (l : List ByteArray) (hl : l.length ≤ 100000) (i : Nat) (hi : i < l.length) : ∀ (m j K : Nat), m = i - j → j ≤ i → (∃ r, agoraref01_keys.l0 K l ((i + 1 : Nat) : Int) = some r) → ∃ r, agoraref01_keys.l1 (K + m + 1) l (i : Int) (j : Int) = some r
  | 0, j, K, hm, hj, h => by
    obtain ⟨r, e⟩ := h
    exact ⟨r, by rw [agoraref01_keys.l1, if_neg (by omega), nat_succ_wrap i (by omega)]; exact e⟩
  | m + 1, j, K, hm, hj, h => by
    obtain ⟨r, e⟩ := keys_l1 l hl i hi m (j + 1) K (by omega) (by omega) h
    rw [agoraref01_keys.l1, if_pos (by omega), if_pos (by omega), if_pos (by omega), if_pos (by omega), if_pos (by omega)]
    by_cases c : (rdOf ByteArray.empty l (i : Int)).toList = (rdOf ByteArray.empty l (j : Int)).toList
    · exact ⟨false, by rw [if_pos c]⟩
    · exact ⟨r, by rw [if_neg c, nat_succ_wrap j (by omega)]; exact e⟩
theorem keys_l0 (l : List ByteArray) (hl : l.length ≤ 100000) (hz : ∀ y ∈ l, y.size ≤ 100000) : ∀ (m i : Nat), m = l.length - i → i ≤ l.length → ∃ K r, agoraref01_keys.l0 K l (i : Int) = some r
  | 0, i, hm, hi => ⟨1, true, by rw [agoraref01_keys.l0, if_neg (by omega)]⟩
  | m + 1, i, hm, hi => by
    obtain ⟨K, r, e⟩ := keys_l0 l hl hz m (i + 1) (by omega) (by omega)
    have hlt : i < l.length := by omega
    have hrd : rdOf ByteArray.empty l (i : Int) = l[i] := by simp [rdOf, hlt]
    have hsz := hz _ (List.getElem_mem hlt)
    obtain ⟨b, hb⟩ := bad_f l[i] (by omega) (K + 100011 + i + 1) (by omega)
    have e' : agoraref01_keys.l0 (K + 100011) l ((i + 1 : Nat) : Int) = some r := at_rounds (fun k => (agoraref01_keys.mono_l k).1 _ _) (Nat.le_add_right K 100011) e
    obtain ⟨r2, e2⟩ := keys_l1 l hl i hlt i 0 (K + 100011) (by omega) (by omega) ⟨r, e'⟩
    by_cases c : b ≥ 0
    · exact ⟨K + 100011 + i + 1 + 1, false, by rw [agoraref01_keys.l0, if_pos (by omega), if_pos (by omega), hrd, hb, Option.bind_some, if_pos c]⟩
    · exact ⟨K + 100011 + i + 1 + 1, r2, by rw [agoraref01_keys.l0, if_pos (by omega), if_pos (by omega), hrd, hb, Option.bind_some, if_neg c]; exact e2⟩
theorem keys_f (l : List ByteArray) (hl : l.length ≤ 100000) (hz : ∀ y ∈ l, y.size ≤ 100000) : ∃ K r, agoraref01_keys.f K l = some r := keys_l0 l hl hz l.length 0 (by omega) (by omega)
theorem shape_f (x : JS) (h : Okay x) : ∃ K r, agoraref01_shape.f K x.f0 x.f1 x.f2 x.f3 x.f4 = some r ∧ (r = true → x.f0 = 5 → x.f3.length = x.f4.length) := by
  obtain ⟨K, kr, hk⟩ := keys_f x.f3 (by have := h.1; omega) (fun y hy => by have := h.2.2.2 y hy; omega)
  obtain ⟨b, hb⟩ := bad_f x.f2 (by have := h.2.2.1; omega) (K + 3000) (by have := h.2.2.1; omega)
  have hk' : agoraref01_keys.f (K + 3000) x.f3 = some kr := at_rounds (fun k => agoraref01_keys.mono _ k) (Nat.le_add_right K 3000) hk
  refine ⟨K + 3000, ?_⟩
  unfold agoraref01_shape.f
  rw [hb, hk']
  simp only [Option.bind_some]
  by_cases h5 : x.f0 = 5
  · by_cases hq : (x.f3.length : Int) = (x.f4.length : Int)
    · have hq' : x.f3.length = x.f4.length := by omega
      repeat' split
      all_goals first | (exfalso; omega) | exact ⟨_, rfl, fun _ _ => hq'⟩
    · repeat' split
      all_goals first | (exfalso; omega) | exact ⟨_, rfl, fun h => by cases h⟩
  · repeat' split
    all_goals first | (exfalso; omega) | exact ⟨_, rfl, fun _ h => absurd h h5⟩
theorem good_l0 (x : JS) (hl : x.f4.length ≤ 300) (d : Nat) (hd : d ≤ 20) (ih : ∀ y ∈ x.f4, ∃ K r, agoraref01_good.f K y.f0 y.f1 y.f2 y.f3 y.f4 (d : Int) = some r) : ∀ (m i : Nat), m = x.f4.length - i → i ≤ x.f4.length → ∃ K r, agoraref01_good.l0 K ((d + 1 : Nat) : Int) (i : Int) x.f0 x.f1 x.f2 x.f3 x.f4 = some r
  | 0, i, hm, hi => ⟨1, true, by rw [agoraref01_good.l0, if_neg (by omega)]⟩
  | m + 1, i, hm, hi => by
    have hlt : i < x.f4.length := by omega
    have hrd : rd_T25 x.f4 (i : Int) = x.f4[i] := by simp [rd_T25, hlt]
    obtain ⟨K1, r1, e1⟩ := ih _ (List.getElem_mem hlt)
    obtain ⟨K2, r2, e2⟩ := good_l0 x hl d hd ih m (i + 1) (by omega) (by omega)
    have hw : wrap64 (((d + 1 : Nat) : Int) - 1) = (d : Int) := by rw [wrap_small _ (by omega) (by omega)]; omega
    have e1' := at_rounds (fun k => agoraref01_good.mono _ _ _ _ _ _ k) (Nat.le_add_right K1 K2) e1
    have e2' := at_rounds (fun k => (agoraref01_good.mono_l k).2.2 _ _ _ _ _ _ _) (Nat.le_add_left K2 K1) e2
    cases r1 with
    | true => exact ⟨K1 + K2 + 1, r2, by rw [agoraref01_good.l0, if_pos (by omega), if_pos (by omega), hrd, hw, e1', Option.bind_some, if_pos rfl, nat_succ_wrap i (by omega)]; exact e2'⟩
    | false => exact ⟨K1 + K2 + 1, false, by rw [agoraref01_good.l0, if_pos (by omega), if_pos (by omega), hrd, hw, e1', Option.bind_some, if_neg (by decide)]⟩
theorem good_f : ∀ (d : Nat), d ≤ 20 → ∀ (x : JS), OkayN (d + 1) x → ∃ K r, agoraref01_good.f K x.f0 x.f1 x.f2 x.f3 x.f4 (d : Int) = some r ∧ (r = true → x.f0 = 5 → x.f3.length = x.f4.length)
  | 0, _, x, _ => ⟨2, false, by rw [agoraref01_good.f, if_pos (by decide), agoraref01_good.j0, if_pos rfl], fun h => by cases h⟩
  | d + 1, hd, x, hx => by
    obtain ⟨K1, r1, e1, h1⟩ := shape_f x hx.1
    obtain ⟨K2, r2, e2⟩ := good_l0 x hx.1.2.1 d (by omega) (fun y hy => by
      obtain ⟨K, r, e, _⟩ := good_f d (by omega) y (hx.2 y hy)
      exact ⟨K, r, e⟩) x.f4.length 0 (by omega) (by omega)
    cases r1 with
    | false =>
      refine ⟨K1 + 2, false, ?_, fun h => by cases h⟩
      rw [agoraref01_good.f, if_neg (by omega), at_rounds (fun k => agoraref01_shape.mono _ _ _ _ _ k) (show K1 ≤ K1 + 1 by omega) e1, Option.bind_some, agoraref01_good.j0, if_pos (by decide)]
    | true =>
      refine ⟨K1 + K2 + 2, r2, ?_, fun _ => h1 rfl⟩
      rw [agoraref01_good.f, if_neg (by omega), at_rounds (fun k => agoraref01_shape.mono _ _ _ _ _ k) (show K1 ≤ K1 + K2 + 1 by omega) e1, Option.bind_some, agoraref01_good.j0, if_neg (by decide)]
      exact at_rounds (fun k => (agoraref01_good.mono_l k).2.2 _ _ _ _ _ _ _) (show K2 ≤ K1 + K2 by omega) e2
theorem Good_f (x : JS) (hx : OkayN 13 x) : ∃ K r, agoraref01_Good.f K x.f0 x.f1 x.f2 x.f3 x.f4 = some r ∧ (r = true → x.f0 = 5 → x.f3.length = x.f4.length) := by
  obtain ⟨K, r, e, h⟩ := good_f 12 (by omega) x hx
  refine ⟨K, r, ?_, h⟩
  unfold agoraref01_Good.f
  have e' : agoraref01_good.f K x.f0 x.f1 x.f2 x.f3 x.f4 12 = some r := e
  rw [e']; rfl
end Go.Proofs.YtcklgalgljmljaaDoor.Q
