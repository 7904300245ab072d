/- Merged out of: PureGet, HandPart. -/
import Derived.Test.YtodhmbnfliajiaaGreatDoorJ8
import Derived.Test.YtodhmbnfliajiaaGreatDoorQx0
import Derived.Test.YtodhmbnfliajiaaGreatDoorQx3
import Derived.WalkKit
import Derived.Laws.Rows
import Derived.BigFrame
/- PureGet: a text of this claim's proof, as printed or written, without what the claim does not use. -/
namespace Go.Proofs.YtodhmbnfliajiaaGreatDoor.Q
open Go.RowKit Go.Proofs.YtodhmbnfliajiaaGreatDoorW.PrintWords Go.Proofs.YtodhmbnfliajiaaGreatDoorW.PrintLast Go.Proofs.YtodhmbnfliajiaaGreatDoorW.PrintMore
theorem nat_succ_wrap (i : Nat) (h : i ≤ 1000000000000) : wrap64 ((i : Int) + 1) = ((i + 1 : Nat) : Int) := by unfold wrap64; omega
def getOf (o : Option JS) : Int × Int × ByteArray × List ByteArray × List JS × Bool :=
  match o with
  | none => (0, 0, ⟨#[]⟩, [], [], false)
  | some x => (x.f0, x.f1, x.f2, x.f3, x.f4, true)
theorem aclIdx_lo (x : ByteArray) : ∀ (l : List ByteArray) (i : Int), 0 ≤ i → aclIdx l x i = -1 ∨ i ≤ aclIdx l x i
  | [], _, _ => Or.inl rfl
  | a :: l, i, h => by
    unfold aclIdx
    by_cases c : a.toList = x.toList
    · rw [if_pos c]; exact Or.inr (Int.le_refl _)
    · rw [if_neg c]
      rcases aclIdx_lo x l (i + 1) (by omega) with h | h
      · exact Or.inl h
      · exact Or.inr (by omega)
def valFrom (keys : List ByteArray) (list : List JS) (key : ByteArray) (i : Nat) : Option JS :=
  if aclIdx (keys.drop i) key (i : Int) < 0 then none else if (list.length : Int) ≤ aclIdx (keys.drop i) key (i : Int) then none else some (rd_T27 list (aclIdx (keys.drop i) key (i : Int)))
theorem get_l0 (keys : List ByteArray) (hk : keys.length ≤ 1000000000) (list : List JS) (key : ByteArray) (kd n : Int) (t : ByteArray) : ∀ (m i K : Nat), m = keys.length - i → i ≤ keys.length → 2 * m + 1 < K →
    agoraref01_Get.l0 K key (i : Int) kd n t keys list = some (getOf (valFrom keys list key i))
  | 0, i, K, hm, hi, hK => by
    obtain ⟨K, rfl⟩ : ∃ j, K = j + 2 := ⟨K - 2, by omega⟩
    have : i = keys.length := by omega
    subst this
    unfold agoraref01_Get.l0
    rw [if_neg (by omega), agoraref01_Get.j1, if_neg (by decide)]
    unfold valFrom
    rw [List.drop_length]; rfl
  | m + 1, i, K, hm, hi, hK => by
    obtain ⟨K, rfl⟩ : ∃ j, K = j + 2 := ⟨K - 2, by omega⟩
    have hlt : i < keys.length := by omega
    have hrd : rdOf ByteArray.empty keys (i : Int) = keys[i] := by simp [rdOf, hlt]
    have ih := get_l0 keys hk list key kd n t m (i + 1) K (by omega) (by omega) (by omega)
    unfold agoraref01_Get.l0
    rw [if_pos (by omega), agoraref01_Get.j1]
    by_cases h1 : i < list.length
    · rw [if_pos (decide_eq_true (by omega)), if_pos (by omega), if_pos (by omega), hrd, nat_succ_wrap i (by omega), ih]
      unfold valFrom
      rw [List.drop_eq_getElem_cons hlt, aclIdx]
      by_cases h2 : keys[i].toList = key.toList
      · rw [if_pos h2, if_pos (by omega), if_pos h2, if_neg (by omega), if_neg (by omega)]; rfl
      · rw [if_neg h2, if_neg h2]; rfl
    · rw [if_neg (by rw [decide_eq_false (by omega)]; decide)]
      unfold valFrom
      rcases aclIdx_lo key (keys.drop i) (i : Int) (by omega) with h | h
      · rw [if_pos (by omega)]; rfl
      · rw [if_neg (by omega), if_pos (by omega)]; rfl
theorem get_f (kd n : Int) (t : ByteArray) (keys : List ByteArray) (hk : keys.length ≤ 1000000000) (list : List JS) (key : ByteArray) (K : Nat) (hK : 2 * keys.length + 1 < K) : agoraref01_Get.f K kd n t keys list key = some (getOf (aclValue kd keys list key)) := by
  unfold agoraref01_Get.f aclValue
  by_cases h : kd = 5
  · rw [if_pos h, if_neg (by omega)]
    have := get_l0 keys hk list key kd n t keys.length 0 K (by omega) (by omega) hK
    exact this
  · rw [if_neg h, if_pos h]; rfl
end Go.Proofs.YtodhmbnfliajiaaGreatDoor.Q

/- HandPart: a text of this claim's proof, as printed or written, without what the claim does not use. -/
namespace Go.Proofs.YtodhmbnfliajiaaGreatDoor.Q
open Go
section
variable {P : Program}
theorem run_loadVar_part (w : World) (g off : Nat) (t ty : TypeId) (cs ps : Array Value) (fr : Nat × Nat) (d : TypeDesc) (hg : w.heap[g]? = some (.cells cs t fr)) (hp : ps.toList = (cs.toList.drop off).take ps.size)
    (hu : P.underlying ty = some d) (hd : (match d with | .struct _ | .array _ _ => true | _ => false) = true) (hi : (P.info? ty).map (·.size) = some ps.size) :
    (loadVar ty ⟨g, off, none⟩).run P w = .ok (.agg ps) w := by
  have hl : (loadCells ⟨g, off, none⟩ ps.toList.length).run P w = .ok ps.toList.toArray w :=
    run_loadCells_list (P := P) w ⟨g, off, none⟩ ps.toList (fun j v hv => by
      have hadd : (⟨g, off, none⟩ : Addr).add j = ⟨g, off + j, none⟩ := by unfold Addr.add; split <;> simp_all
      rw [hadd, cell_of_row w g (off + j) cs t fr hg]
      rw [hp] at hv
      have hj : j < ps.size := by
        have := (List.getElem?_eq_some_iff.1 hv).1
        rw [List.length_take] at this; omega
      rw [List.getElem?_take_of_lt hj, List.getElem?_drop] at hv
      simpa using hv)
  cases hq : P.info? ty with
  | none => simp [hq] at hi
  | some i =>
    have hs : i.size = ps.size := by simpa [hq] using hi
    have hagg : (isAgg ty).run P w = .ok true w := by
      unfold isAgg
      rw [Sem.run_bind, run_underlying hu w]
      cases d <;> simp_all
    simp only [Array.length_toList, Array.toArray_toList] at hl
    simp [loadVar, Sem.run_bind, hagg, sizeOf, typeInfo, hq, hs, hl]
theorem wp_load_part {o : Oper} {a : Act} {w : World} {K : Act → World → Prop} {Q : Exit → Act → World → Prop} (ty : TypeId) (x : Operand) (ho : o.op = .load ty x)
    (g off : Nat) (hx : a.eval x = .pointer (some ⟨g, off, none⟩)) (t : TypeId) (cs ps : Array Value) (fr : Nat × Nat) (d : TypeDesc) (hg : w.heap[g]? = some (.cells cs t fr)) (hp : ps.toList = (cs.toList.drop off).take ps.size)
    (hu : P.underlying ty = some d) (hd : (match d with | .struct _ | .array _ _ => true | _ => false) = true) (hi : (P.info? ty).map (·.size) = some ps.size)
    (h : K (a.put o.dst (.agg ps)) w) : o.wp P a w K Q := by
  unfold Oper.wp execOp
  simp only [ho, hx, Instr.loadAt, Instr.sureAddr, Sem.run_bind, Sem.run_pure, Result.andThen_ok, run_loadVar_part w g off t ty cs ps fr d hg hp hu hd hi]
  exact h
theorem wpList_load_part {ops : Array Oper} {rest : List Oper} {o : Oper} {a : Act} {w : World} {Q : Exit → Act → World → Prop} (hw : Region.wanted o (yielded ops a.tmps) = true) (ty : TypeId) (x : Operand) (ho : o.op = .load ty x)
    (g off : Nat) (hx : a.eval x = .pointer (some ⟨g, off, none⟩)) (t : TypeId) (cs ps : Array Value) (fr : Nat × Nat) (d : TypeDesc) (hg : w.heap[g]? = some (.cells cs t fr)) (hp : ps.toList = (cs.toList.drop off).take ps.size)
    (hu : P.underlying ty = some d) (hd : (match d with | .struct _ | .array _ _ => true | _ => false) = true) (hi : (P.info? ty).map (·.size) = some ps.size)
    (h : wpList P ops Q rest (a.put o.dst (.agg ps)) w) : wpList P ops Q (o :: rest) a w :=
  wpList_step fun _ hK => by rw [if_pos hw]; exact wp_load_part ty x ho g off hx t cs ps fr d hg hp hu hd hi (hK _ _ h)
end
end Go.Proofs.YtodhmbnfliajiaaGreatDoor.Q

