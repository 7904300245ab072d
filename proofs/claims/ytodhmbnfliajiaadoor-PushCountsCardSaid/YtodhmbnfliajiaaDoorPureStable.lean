/- PureStable: a text of this claim's proof, as printed or written, without what the claim does not use. -/
import Derived.Sort.LotA
import Derived.Test.YtodhmbnfliajiaaDoorJ5
namespace Go.Proofs.YtodhmbnfliajiaaDoor.Q
open Go.Sort
section
variable {α : Type} [Inhabited α]
theorem swp_at (d : Array α) (j : Nat) (h : j + 1 < d.size) : (swp d (j + 1) j)[j]! = d[j + 1]! ∧ ∀ p, p < j → (swp d (j + 1) j)[p]! = d[p]! := by
  unfold swp
  constructor
  · rw [getElem!_pos _ j (by simp; omega), Array.getElem_setIfInBounds, if_pos rfl]
    simp; omega
  · intro p hp
    rw [getElem!_pos _ p (by simp; omega), Array.getElem_setIfInBounds, if_neg (by omega), Array.getElem_setIfInBounds, if_neg (by omega), getElem!_pos d p (by omega)]
    all_goals (simp; omega)
theorem inner_same (lt lt' : α → α → Bool) (v : α → Nat) (hs : ∀ x y, v y < v x → lt x y = lt' x y) : ∀ (j : Nat) (d : Array α), j < d.size → (∀ p, p < j → v d[p]! < v d[j]!) → insInner lt 0 j d = insInner lt' 0 j d
  | 0, d, _, _ => by unfold insInner; rfl
  | j + 1, d, hj, h => by
    unfold insInner
    rw [hs d[j + 1]! d[j]! (h j (by omega))]
    obtain ⟨e1, e2⟩ := swp_at d j hj
    have hz : (swp d (j + 1) j).size = d.size := by unfold swp; simp
    rw [inner_same lt lt' v hs j (swp d (j + 1) j) (by omega) (fun p hp => by rw [e1, e2 p hp]; exact h p (by omega))]
end
def lexB (key : Nat → Int) (x y : Nat) : Bool := decide (key x < key y) || (decide (key x = key y) && decide (x < y))
theorem lexB_iff (key : Nat → Int) (x y : Nat) : lexB key x y = true ↔ Lex key x y := by
  unfold lexB Lex; simp
theorem lex_swo (key : Nat → Int) (m : Nat) : SWO (fun x y : Fin (m + 1) => lexB key x.val y.val) where
  irrefl := fun x => by unfold lexB; simp
  trans := fun x y z h1 h2 => by
    rw [lexB_iff] at *; exact Lex.trans h1 h2
  ntrans := fun x y z h1 h2 => by
    have n1 : ¬ Lex key x.val y.val := fun h => by rw [(lexB_iff key _ _).2 h] at h1; cases h1
    have n2 : ¬ Lex key y.val z.val := fun h => by rw [(lexB_iff key _ _).2 h] at h2; cases h2
    cases h : lexB key x.val z.val with
    | false => rfl
    | true =>
      have h3 := (lexB_iff key _ _).1 h
      exfalso
      unfold Lex at *
      omega
theorem outer_same (key : Nat → Int) (m : Nat) : ∀ (k i : Nat) (d : Array (Fin (m + 1))), k = m + 1 - i → 0 < i → i ≤ m + 1 → d.size = m + 1 → SortedIn (fun x y : Fin (m + 1) => lexB key x.val y.val) 0 i d → (∀ p, p < i → d[p]!.val < i) → (∀ p, i ≤ p → p < m + 1 → d[p]!.val = p) →
    insOuter (fun x y : Fin (m + 1) => decide (key x.val < key y.val)) 0 (m + 1) i d = insOuter (fun x y : Fin (m + 1) => lexB key x.val y.val) 0 (m + 1) i d
  | 0, i, d, hk, h0, hi, hz, hS, hlo, hhi => by
    rw [insOuter, if_neg (by omega)]
    conv => rhs; rw [insOuter, if_neg (by omega)]
  | k + 1, i, d, hk, h0, hi, hz, hS, hlo, hhi => by
    rw [insOuter, if_pos (by omega)]
    conv => rhs; rw [insOuter, if_pos (by omega)]
    have hin := inner_same (fun x y : Fin (m + 1) => decide (key x.val < key y.val)) (fun x y : Fin (m + 1) => lexB key x.val y.val) Fin.val (fun x y hxy => by
      unfold lexB
      rw [decide_eq_false (show ¬ x.val < y.val by omega), Bool.and_false, Bool.or_false]) i d (by omega) (fun p hp => by rw [hhi i (Nat.le_refl _) (by omega)]; exact hlo p hp)
    rw [hin]
    obtain ⟨⟨g1, g2, g3⟩, gs⟩ := insInner_spec (lex_swo key m) swp_permIn permIn_refl permIn_trans 0 (i + 1) i (by omega) i d (by omega) (Nat.le_refl _) (by omega) ⟨fun p q hap hpq hqi _ hq => hS p q hap hpq (by omega), fun q h1 h2 => by omega⟩
    refine outer_same key m k (i + 1) _ (by omega) (by omega) (by omega) (by rw [g1]; exact hz) gs (fun p hp => ?_) (fun p hp1 hp2 => by rw [g2 p (.inr hp1)]; exact hhi p (by omega) hp2)
    have hsz : (insInner (fun x y : Fin (m + 1) => lexB key x.val y.val) 0 i d).size = m + 1 := by rw [g1]; exact hz
    have hmem : (insInner (fun x y : Fin (m + 1) => lexB key x.val y.val) 0 i d)[p]! ∈ ((insInner (fun x y : Fin (m + 1) => lexB key x.val y.val) 0 i d).extract 0 (i + 1)).toList := by
      rw [getElem!_pos _ p (by omega)]
      rw [Array.mem_toList_iff, Array.mem_extract_iff_getElem]
      exact ⟨p, by simp; omega, by simp⟩
    have hmem2 := g3.mem_iff.1 hmem
    rw [Array.mem_toList_iff, Array.mem_extract_iff_getElem] at hmem2
    obtain ⟨q, hq, e⟩ := hmem2
    rw [← e]
    simp only [Nat.zero_add, Nat.sub_zero] at hq ⊢
    have hq' : q < i + 1 := by omega
    have hqs : q < d.size := by omega
    have := getElem!_pos d q hqs
    rw [← this]
    by_cases hqi : q = i
    · rw [hqi, hhi i (Nat.le_refl _) (by omega)]; omega
    · have := hlo q (by omega); omega
def idRow (m : Nat) : Array (Fin (m + 1)) := Array.ofFn (fun i : Fin (m + 1) => i)
theorem idRow_size (m : Nat) : (idRow m).size = m + 1 := by simp [idRow]
theorem idRow_at (m p : Nat) (h : p < m + 1) : (idRow m)[p]!.val = p := by
  rw [getElem!_pos _ p (by rw [idRow_size]; exact h)]
  simp [idRow]
def placesBy (key : Nat → Int) (m : Nat) : List Nat := (insertionSort (fun x y : Fin (m + 1) => decide (key x.val < key y.val)) (idRow m) 0 (m + 1)).toList.map Fin.val
theorem placesBy_spec (key : Nat → Int) (m : Nat) : (placesBy key m).Pairwise (Lex key) ∧ (∀ y, y ∈ placesBy key m ↔ y < m + 1) ∧ (placesBy key m).length = m + 1 := by
  have he : insertionSort (fun x y : Fin (m + 1) => decide (key x.val < key y.val)) (idRow m) 0 (m + 1) = insertionSort (fun x y : Fin (m + 1) => lexB key x.val y.val) (idRow m) 0 (m + 1) := by
    unfold insertionSort
    exact outer_same key m m 1 (idRow m) (by omega) (by omega) (by omega) (idRow_size m) (fun i j h1 h2 h3 => by omega) (fun p hp => by rw [idRow_at m p (by omega)]; exact hp) (fun p h1 h2 => idRow_at m p h2)
  obtain ⟨⟨g1, g2, g3⟩, gs⟩ := insertionSort_holds (lt := fun x y : Fin (m + 1) => lexB key x.val y.val) (lex_swo key m) (idRow m) 0 (m + 1) (by omega) (by rw [idRow_size]; exact Nat.le_refl _)
  unfold placesBy
  rw [he]
  generalize insertionSort (fun x y : Fin (m + 1) => lexB key x.val y.val) (idRow m) 0 (m + 1) = d at *
  rw [idRow_size] at g1
  have ex1 : (d.extract 0 (m + 1)).toList = d.toList := by rw [Array.toList_extract, List.extract_eq_take_drop, List.drop_zero, List.take_of_length_le (by rw [Array.length_toList]; omega)]
  have ex2 : ((idRow m).extract 0 (m + 1)).toList = (idRow m).toList := by rw [Array.toList_extract, List.extract_eq_take_drop, List.drop_zero, List.take_of_length_le (by rw [Array.length_toList, idRow_size]; omega)]
  rw [ex1, ex2] at g3
  have hid : (idRow m).toList.map Fin.val = List.range (m + 1) := by
    apply List.ext_getElem
    · simp [idRow]
    · intro i h1 h2
      have h3 : i < m + 1 := by simpa using h2
      have := idRow_at m i h3
      rw [getElem!_pos _ i (by rw [idRow_size]; exact h3)] at this
      rw [List.getElem_map, Array.getElem_toList, List.getElem_range]
      exact this
  have hp : (d.toList.map Fin.val).Perm (List.range (m + 1)) := by rw [← hid]; exact g3.map _
  refine ⟨?_, fun y => by rw [hp.mem_iff, List.mem_range], by rw [hp.length_eq, List.length_range]⟩
  have hnd : (d.toList.map Fin.val).Nodup := hp.nodup_iff.2 List.nodup_range
  rw [List.pairwise_iff_getElem]
  intro i j hi hj hij
  have hi' : i < d.size := by simpa using hi
  have hj' : j < d.size := by simpa using hj
  have h1 := gs i j (by omega) hij (by omega)
  rw [getElem!_pos d i hi', getElem!_pos d j hj'] at h1
  have hne : (d.toList.map Fin.val)[i] ≠ (d.toList.map Fin.val)[j] := List.pairwise_iff_getElem.1 hnd i j hi hj hij
  simp only [List.getElem_map, Array.getElem_toList] at hne ⊢
  have n1 : ¬ Lex key d[j].val d[i].val := fun h => by
    have := (lexB_iff key _ _).2 h
    simp only at h1
    rw [this] at h1; cases h1
  unfold Lex at *
  omega
end Go.Proofs.YtodhmbnfliajiaaDoor.Q
