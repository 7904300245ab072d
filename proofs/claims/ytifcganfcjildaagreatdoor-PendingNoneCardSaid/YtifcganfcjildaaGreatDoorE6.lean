/- Slices: bounds, literals, append. -/
import Derived.Test.YtifcganfcjildaaGreatDoorE5
namespace Go.Proofs.YtifcganfcjildaaGreatDoor.E
open Go Go.RowKit
set_option linter.unusedVariables false
set_option linter.unusedSimpArgs false
set_option linter.unnecessarySimpa false
noncomputable section

/-! ### Cells filled -/
theorem foldl_fill (off : Nat) : ∀ (vs : List Value) (k : Nat) (cells : Array Value), off + k + vs.length ≤ cells.size →
    ((vs.zipIdx k).foldl (fun cs (p : Value × Nat) => cs.setIfInBounds (off + p.2) p.1) cells).toList = cells.toList.take (off + k) ++ vs ++ cells.toList.drop (off + k + vs.length)
  | [], k, cells, h => by simp
  | v :: vs, k, cells, h => by
    have h2 : off + k + (vs.length + 1) ≤ cells.size := by simpa using h
    rw [List.zipIdx_cons, List.foldl_cons]
    rw [foldl_fill off vs (k + 1) _ (by simp; omega)]
    have e := list_seg_step cells.toList (off + k) v vs (by simpa using h2)
    rw [Array.toList_setIfInBounds]
    simpa [Nat.add_assoc] using e
theorem array_fold_fill (off : Nat) (vs cells : Array Value) (h : off + vs.size ≤ cells.size) :
    (vs.zipIdx.foldl (fun cs (p : Value × Nat) => cs.setIfInBounds (off + p.2) p.1) cells).toList = cells.toList.take off ++ vs.toList ++ cells.toList.drop (off + vs.size) := by
  rw [← Array.foldl_toList, Array.toList_zipIdx, foldl_fill off vs.toList 0 cells (by simpa using h)]
  simp
inductive PRs (φ : Map) : List (Nat × AV) → List (Nat × Value) → Prop
  | nil : PRs φ [] []
  | cons {i : Nat} {v : AV} {x : Value} {l : List (Nat × AV)} {k : List (Nat × Value)} (h : VR φ v x) (t : PRs φ l k) : PRs φ ((i, v) :: l) ((i, x) :: k)
theorem fillA_sound {φ : Map} {place : Nat → Option (Nat × Nat)} : ∀ {l : List (Nat × AV)} {k : List (Nat × Value)} {cs cs' : List AV} {C : Array Value}, PRs φ l k → VRs φ cs C.toList → fillA place cs l = some cs' →
    ∃ C', Instr.fill place C k = some C' ∧ VRs φ cs' C'.toList
  | [], _, cs, cs', C, .nil, hc, h => by obtain rfl := Option.some.inj h; exact ⟨C, rfl, hc⟩
  | (i, v) :: l, _ :: k, cs, cs', C, .cons (x := x) hv t, hc, h => by
    unfold fillA at h
    cases hp : place i with
    | none => rw [hp] at h; cases h
    | some q =>
      obtain ⟨off, s⟩ := q
      rw [hp] at h
      simp only at h
      cases hb : (Nat.beq (cellsA v).length s && ones (cellsA v)) with
      | false => rw [hb] at h; cases h
      | true =>
        rw [hb] at h
        rw [Bool.and_eq_true] at hb
        have hn := Nat.eq_of_beq_eq_true hb.1
        have hvs := hv.cells (ones_mem hb.2)
        have hl := hvs.length
        simp only [cd] at h
        cases hs : splice cs off (cellsA v) with
        | none => rw [hs] at h; cases h
        | some c =>
          rw [hs] at h
          simp only at h
          obtain ⟨hle, rfl⟩ := splice_eq hs
          have hcl := hc.length
          have hsz : x.cells.size = s := by rw [← hn, hl]; simp
          have hfit : off + x.cells.size ≤ C.size := by
            have : cs.length = C.size := by simpa using hcl
            rw [hl] at hle; simp at hle; omega
          have hf := array_fold_fill off x.cells C hfit
          have hnew : VRs φ (cs.take off ++ cellsA v ++ cs.drop (off + (cellsA v).length)) (x.cells.zipIdx.foldl (fun cs (p : Value × Nat) => cs.setIfInBounds (off + p.2) p.1) C).toList := by
            rw [hf]
            have e : (cellsA v).length = x.cells.size := by rw [hl]; simp
            rw [e]
            exact ((hc.take off).append hvs).append (hc.drop _)
          obtain ⟨C', h1, h2⟩ := fillA_sound t hnew h
          refine ⟨C', ?_, h2⟩
          unfold Instr.fill
          rw [hp]
          simp only
          rw [if_neg (by simp [hsz]; omega)]
          exact h1
/-! ### Cells repeated -/
theorem rep_sound {φ : Map} {l : List AV} {k : List Value} (h : VRs φ l k) : ∀ n, VRs φ (rep l n) (List.replicate n k).flatten
  | 0 => .nil
  | n + 1 => by
    rw [List.replicate_succ, List.flatten_cons]
    exact h.append (rep_sound h n)
theorem range_mod (z : Array Value) (k : Nat) (hk : z.size = k) : ∀ n, (List.range (n * k)).map (fun i => z[i % k]!) = (List.replicate n z.toList).flatten
  | 0 => by simp
  | n + 1 => by
    rw [Nat.succ_mul, List.range_add, List.map_append, range_mod z k hk n, List.replicate_succ', List.flatten_append]
    congr 1
    simp only [List.flatten_cons, List.flatten_nil, List.append_nil, List.map_map]
    apply List.ext_getElem
    · simp [hk]
    · intro i h1 h2
      have hi : i < k := by simpa using h1
      simp only [List.getElem_map, List.getElem_range, Function.comp_apply]
      rw [show (n * k + i) % k = i by rw [Nat.mul_comm, Nat.mul_add_mod, Nat.mod_eq_of_lt hi]]
      rw [getElem!_pos z i (by omega)]
      simp
theorem zeros_list (z : Array Value) (n k : Nat) (hk : z.size = k) : ((Array.range (n * k)).map fun i => z[i % z.size]!).toList = (List.replicate n z.toList).flatten := by
  rw [Array.toList_map, Array.toList_range, hk, range_mod z k hk]
theorem zero_sound {P : Program} {φ : Map} {t : TypeId} {z : AV} (h : zero P t = some z) (w : World) : ∃ v, (zeroValue t).run P w = .ok v w ∧ VR φ z v := by
  unfold zero at h
  cases e : P.info? t with
  | none => rw [e] at h; cases h
  | some i =>
    rw [e] at h
    change i.zero.bind ofV = some z at h
    cases e2 : i.zero with
    | none => rw [e2] at h; cases h
    | some v => rw [e2] at h; exact ⟨v, by simp [zeroValue, typeInfo, e, e2], ofV_sound h⟩
/-! ### Bounds -/
theorem boundA_sound {P : Program} {φ : Map} {v : AV} {x : Value} {hi hi' n : Nat} (hx : VR φ v x) (h : boundA hi v = some n) (hle : hi ≤ hi') (code : BoundsCode) (w : World) : (Instr.sliceBound x hi' code).run P w = .ok n w ∧ n ≤ hi := by
  unfold boundA at h
  cases hx with
  | int k i =>
    simp only at h
    cases hb : (decide (0 ≤ i) && decide (i ≤ (hi : Int))) with
    | false => rw [hb] at h; cases h
    | true =>
      rw [hb] at h
      obtain rfl := Option.some.inj h
      rw [Bool.and_eq_true, decide_eq_true_eq, decide_eq_true_eq] at hb
      refine ⟨?_, by omega⟩
      have hc : 0 ≤ i ∧ i ≤ (hi' : Int) := ⟨hb.1, by omega⟩
      simp [Instr.sliceBound, asIntOf, hc]
  | _ => cases h
theorem boundO_some {N : Nat} {φ : Map} {T : Temps} {a : Act} (hf : FRel N φ T a) {d hi n : Nat} {x : Operand} (h : boundO T d hi (some x) = some n) : ∃ v, VR φ v (a.eval x) ∧ boundA hi v = some n := by
  unfold boundO at h
  simp only at h
  cases e : evO T x with
  | none => rw [e] at h; cases h
  | some v => rw [e] at h; exact ⟨v, evO_sound hf e, h⟩
/-- The three bounds of a slice; the room is known, or it is not and is more. -/
theorem bounds_sound {P : Program} {N : Nat} {φ : Map} {T : Temps} {a : Act} (hf : FRel N φ T a) {isS : Bool} {len cap cap' m h l : Nat} {lo hi mx : Option Operand} (hle : cap ≤ cap') (hmx : maxed hi mx = true)
    (h1 : boundO T cap cap mx = some m) (h2 : boundO T len m hi = some h) (h3 : boundO T 0 h lo = some l) (hlen : mx = none → hi = none → True) (w : World) :
    (Instr.sliceBounds isS len cap' (lo.map a.eval) (hi.map a.eval) (mx.map a.eval)).run P w = .ok (l, h, if mx.isSome then m else cap') w ∧ (hi.isSome = true → h ≤ m) ∧ m ≤ cap ∧ l ≤ h ∧ (mx = none → m = cap) ∧ (hi = none → h = len) := by
  have f3 : (match lo.map a.eval with | some v => Instr.sliceBound v h (if (mx.map a.eval).isSome then .slice3C else .sliceB) | none => pure 0 : Sem Nat).run P w = .ok l w ∧ l ≤ h := by
    cases lo with
    | none => obtain rfl := Option.some.inj h3; exact ⟨rfl, Nat.zero_le _⟩
    | some x =>
      obtain ⟨v, hv, hb⟩ := boundO_some hf h3
      exact boundA_sound hv hb (Nat.le_refl _) _ w
  cases mx with
  | none =>
    obtain rfl := Option.some.inj h1
    cases hi with
    | none =>
      obtain rfl := Option.some.inj h2
      refine ⟨?_, (fun h => by cases h), Nat.le_refl _, f3.2, fun _ => rfl, fun _ => rfl⟩
      have f := f3.1
      simp only [Option.map_none, Option.isSome_none, Bool.false_eq_true, if_false] at f ⊢
      simp only [Instr.sliceBounds, Sem.run_bind, Sem.run_pure, Result.andThen_ok, Option.isSome_none, Bool.false_eq_true, if_false]
      cases lo with
      | none => have f' : (Result.ok 0 w : Result Nat) = .ok l w := f; injection f' with e1; subst e1; rfl
      | some x =>
        have f' : (Instr.sliceBound (a.eval x) _ _).run P w = .ok l w := f
        show (Instr.sliceBound (a.eval x) _ _ >>= fun l => pure _ : Sem _).run P w = _
        rw [Sem.run_bind, f']; rfl
    | some y =>
      obtain ⟨v, hv, hb⟩ := boundO_some hf h2
      obtain ⟨g1, g2⟩ := boundA_sound (P := P) hv hb hle (if isS then .sliceAcap else .sliceAlen) w
      refine ⟨?_, fun _ => g2, Nat.le_refl _, f3.2, fun _ => rfl, (fun h => by cases h)⟩
      have f := f3.1
      simp only [Option.map_none, Option.isSome_none, Bool.false_eq_true, if_false] at f ⊢
      simp only [Instr.sliceBounds, Option.map_some, Sem.run_bind, Sem.run_pure, Result.andThen_ok, g1, Option.isSome_none, Bool.false_eq_true, if_false]
      cases lo with
      | none => have f' : (Result.ok 0 w : Result Nat) = .ok l w := f; injection f' with e1; subst e1; rfl
      | some x =>
        have f' : (Instr.sliceBound (a.eval x) _ _).run P w = .ok l w := f
        show (Instr.sliceBound (a.eval x) _ _ >>= fun l => pure _ : Sem _).run P w = _
        rw [Sem.run_bind, f']; rfl
  | some z =>
    cases hi with
    | none => cases hmx
    | some y =>
      obtain ⟨u, hu, hc⟩ := boundO_some hf h1
      obtain ⟨k1, k2⟩ := boundA_sound (P := P) hu hc hle (if isS then .slice3Acap else .slice3Alen) w
      obtain ⟨v, hv, hb⟩ := boundO_some hf h2
      obtain ⟨g1, g2⟩ := boundA_sound (P := P) hv hb (Nat.le_refl _) .slice3B w
      refine ⟨?_, fun _ => g2, k2, f3.2, (fun h => by cases h), (fun h => by cases h)⟩
      have f := f3.1
      simp only [Option.map_some, Option.isSome_some, if_true] at f ⊢
      simp only [Instr.sliceBounds, Sem.run_bind, k1, Result.andThen_ok, g1, Option.isSome_some, if_true]
      cases lo with
      | none => have f' : (Result.ok 0 w : Result Nat) = .ok l w := f; injection f' with e1; subst e1; rfl
      | some x =>
        have f' : (Instr.sliceBound (a.eval x) _ _).run P w = .ok l w := f
        show (Instr.sliceBound (a.eval x) _ _ >>= fun l => pure _ : Sem _).run P w = _
        rw [Sem.run_bind, f']; rfl
end
end Go.Proofs.YtifcganfcjildaaGreatDoor.E
