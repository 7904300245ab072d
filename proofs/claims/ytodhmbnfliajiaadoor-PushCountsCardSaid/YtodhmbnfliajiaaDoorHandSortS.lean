/- HandSortS: a text of this claim's proof, as printed or written, without what the claim does not use. -/
import Derived.WalkKit
import Derived.WalkSpells
import Derived.WalkSmall
import Derived.Deep.LoopGhost
import Derived.Lib.Hide
import Derived.Laws.EntriesVeiled
import Derived.BigQuiet
import Derived.Deep.QuietTactic
import Derived.Shelf.SlSortCmp.Insertion
import Derived.Test.YtodhmbnfliajiaaDoorShelf
import Derived.Test.YtodhmbnfliajiaaDoorJ6
import Derived.Test.YtodhmbnfliajiaaDoorPureStable
import Derived.Test.YtodhmbnfliajiaaDoorQx0
namespace Go.Proofs.YtodhmbnfliajiaaDoor.Q
open Go.RowKit Go.Shelf Go.Proofs.YtodhmbnfliajiaaDoorW.PrintWords Go.Proofs.YtodhmbnfliajiaaDoorW.PrintLast
set_option linter.unusedVariables false
set_option maxRecDepth 100000 in
set_option maxHeartbeats 2000000 in
theorem less_calls (B : Nat) (A : Option Addr) (n c : Nat) (a b : Nat) (ad : Addr) (ka kb : Int) (W : World) (ha : a < n) (hb : b < n) (hn : n ≤ 1000000) (hA : A = some ad)
    (hc : W.cell? ⟨B, 0, none⟩ = some (.slice A n c)) (h1 : W.cell? (ad.add (a * 6)) = some (.int .i64 ka)) (h2 : W.cell? (ad.add (b * 6)) = some (.int .i64 kb)) :
    Calls Tryd.prog 40 #[.int .i64 (a : Int), .int .i64 (b : Int), .pointer (some ⟨B, 0, none⟩)] W fun e w' => e = .returned (.int .i64 (Lib.compareInt ka kb)) ∧ ∃ q, w' = W.drewN q := by
  subst hA
  have i1 : (a : Int) < (n : Int) := by omega
  have i2 : (b : Int) < (n : Int) := by omega
  have i3 : (0 : Int) ≤ (a : Int) := by omega
  have i4 : (0 : Int) ≤ (b : Int) := by omega
  have HC := Lib.hid (fun W => Tryd.cmp_Compare_int ka kb W)
  go_enter Tryd.func40, Tryd.ntmps40
  go_wp2
  go_quiet ((go_at_call 41; exact Calls.quiet_of_same (HC.out _)))
  go_wp2
  go_ret
  exact ⟨rfl, _, rfl⟩
theorem below_sortW {α : Type} [Inhabited α] (enc : α → Value) (w : World) (blk off m : Nat) (dk : Array α) (os : Array Obj) (h : blk ≤ w.heap.size) : Below blk w (sortWorld enc w blk off m dk os) := by
  unfold sortWorld
  have hz : (Sort.putRow enc (Sort.ahead w m) blk off dk).heap.size = w.heap.size := by rw [Sort.size_putRow]; rfl
  refine ⟨rfl, rfl, rfl, ?_, fun k hk => ?_⟩
  · show w.heap.size ≤ ((Sort.putRow enc (Sort.ahead w m) blk off dk).heap ++ os).size
    rw [Array.size_append, hz]; omega
  · show ((Sort.putRow enc (Sort.ahead w m) blk off dk).heap ++ os)[k]? = w.heap[k]?
    rw [Array.getElem?_append_left (by rw [hz]; omega)]
    show ((Sort.ahead w m).heap.modify blk _)[k]? = _
    rw [Array.getElem?_modify, if_neg (by omega)]
    rfl
theorem insert_none (g : Nat) (lb : Array Value) (p : Option Addr) (cap : Nat) (w : World) : Calls Tryd.prog 72 #[.slice p 0 cap, .int .i64 0, .int .i64 0, .func (.func g) #[] lb] w fun e w' => e = .returned (.tuple #[]) ∧ w' = w := by
  go_enter Tryd.func72, Tryd.ntmps72
  go_wp2
  refine wp_loop_rounds 1 ?_
  rw [rounds_succ]
  go_wp2
  go_end0
  exact ⟨rfl, rfl⟩
abbrev encP (m : Nat) : Fin (m + 1) → Value := fun x => .int .i64 (x.val : Int)
def sortedBy (key : Nat → Int) (m : Nat) : Array (Fin (m + 1)) := Sort.insertionSort (fun x y : Fin (m + 1) => decide (key x.val < key y.val)) (idRow m) 0 (m + 1)
theorem ltOf_key (key : Nat → Int) (m : Nat) : ltOf (fun x y : Fin (m + 1) => Lib.compareInt (key x.val) (key y.val)) = fun x y => decide (key x.val < key y.val) := by
  funext x y
  unfold ltOf
  rw [decide_eq_decide]
  unfold Lib.compareInt
  dsimp only
  split
  · omega
  · split <;> omega
theorem insert_calls (g : Nat) (lb : Array Value) (eg : ∀ args w, (callFunc g args).run Tryd.prog w = .ok (.enter g args) w) (m : Nat) (hm : m + 1 ≤ 1000000) (key : Nat → Int) (blk cap : Nat) (w : World) (hH : Sort.Holds (encP m) w blk 0 (idRow m))
    (hcmp : CmpReads Tryd.prog g lb (encP m) (fun x y => Lib.compareInt (key x.val) (key y.val)) blk 0 (m + 1) w) :
    Calls Tryd.prog 72 #[.slice (some ⟨blk, 0, none⟩) (m + 1) cap, .int .i64 0, .int .i64 ((m + 1 : Nat) : Int), .func (.func g) #[] lb] w fun e w' => e = .returned (.tuple #[]) ∧ ∃ n, w' = (Sort.putRow (encP m) w blk 0 (sortedBy key m)).drewN n := by
  have hcon := Any.insertionSortCmpFunc_one Tryd.insL (encP m) (fun _ => rfl) (fun x y => Lib.compareInt (key x.val) (key y.val)) g lb blk 0 cap 0 (m + 1) (idRow m) w eg (by rw [idRow_size]; exact hcmp) hH (by omega) (by rw [idRow_size]; exact Nat.le_refl _) (by rw [idRow_size]; omega)
  rw [ltOf_key, idRow_size] at hcon
  exact hcon
set_option maxRecDepth 100000 in
set_option maxHeartbeats 2000000 in
theorem stable_calls (n cap : Nat) (hn : n ≤ 16) (p : Option Addr) (g : Nat) (lb : Array Value) (w : World) (Q : World → Prop)
    (H : Calls Tryd.prog 72 #[.slice p n cap, .int .i64 0, .int .i64 (n : Int), .func (.func g) #[] lb] w fun e w' => e = .returned (.tuple #[]) ∧ Q w') :
    Calls Tryd.prog 55 #[.slice p n cap, .int .i64 (n : Int), .func (.func g) #[] lb] w fun e w' => e = .returned (.tuple #[]) ∧ Q w' := by
  have d1 : decide ((20 : Int) ≤ (n : Int)) = false := decide_eq_false (by omega)
  have d2 : decide ((20 : Int) < (n : Int)) = false := decide_eq_false (by omega)
  have HH := Lib.hid H
  clear H
  go_enter Tryd.func55, Tryd.ntmps55
  go_wp2
  refine wp_loop_rounds 1 ?_
  rw [rounds_succ]
  go_wp2_with (go_at_call 72; refine HH.out.mono ?_; rintro e w' ⟨rfl, hq⟩)
  refine wp_loop_rounds 1 ?_
  rw [rounds_succ]
  go_wp2
  go_end0
  exact ⟨rfl, hq⟩
set_option maxRecDepth 100000 in
set_option maxHeartbeats 2000000 in
theorem sortStable_calls (n cap : Nat) (hn : n ≤ 16) (p : Option Addr) (g : Nat) (lb : Array Value) (w : World) (Q : World → Prop)
    (H : Calls Tryd.prog 72 #[.slice p n cap, .int .i64 0, .int .i64 (n : Int), .func (.func g) #[] lb] w fun e w' => e = .returned (.tuple #[]) ∧ Q w') :
    Calls Tryd.prog 39 #[.slice p n cap, .func (.func g) #[] lb] w fun e w' => e = .returned (.tuple #[]) ∧ Q w' := by
  have HH := Lib.hid (stable_calls n cap hn p g lb w Q H)
  clear H
  go_enter Tryd.func39, Tryd.ntmps39
  go_wp2_with (go_at_call 55; refine HH.out.mono ?_; rintro e w' ⟨rfl, hq⟩)
  go_end0
  exact ⟨rfl, hq⟩
def idxC (p : S38 → Bool) : List S38 → Int → Int
  | [], _ => -1
  | a :: l, i => if p a then i else idxC p l (i + 1)
theorem idxC_any (p : S38 → Bool) (l : List S38) : ∀ i, 0 ≤ i → decide (0 ≤ idxC p l i) = l.any p := by
  induction l with
  | nil => intro i hi; rfl
  | cons a l ih =>
    intro i hi
    cases h : p a with
    | true => simp [idxC, h]; omega
    | false => simp only [idxC, h, List.any_cons, Bool.false_or]; exact ih (i + 1) (by omega)
set_option maxRecDepth 100000 in
set_option maxHeartbeats 2000000 in
theorem indexFunc_cond (g : Nat) (lb : Array Value) (eg : ∀ args w, (callFunc g args).run Tryd.prog w = .ok (.enter g args) w) (p : S38 → Bool) (l : List S38) (hl : l.length ≤ 9223372036854775806) (A : Option Addr) (c : Nat) (w : World) (hr : Kd.C k38 w A l.length l)
    (hp : ∀ (W : World) (x : S38), x ∈ l → Below w.heap.size w W → Calls Tryd.prog g (#[.agg #[.string x.f0, .string x.f1, .string x.f2, .int .i64 x.f3]] ++ lb) W fun e w' => e = .returned (.bool (p x)) ∧ Below W.heap.size W w') :
    Calls Tryd.prog 57 #[.slice A l.length c, .func (.func g) #[] lb] w fun e w' => e = .returned (.int .i64 (idxC p l 0)) ∧ Below w.heap.size w w' := by
  have HR := Lib.hid hr; have HP := Lib.hid hp
  clear hr hp
  go_enter Tryd.func57, Tryd.ntmps57
  go_wp2
  go_loopw [8] (fun i wr => ∃ k : Nat, k ≤ l.length ∧ i = .int .i64 k ∧ Hid (idxC p (l.drop k) k = idxC p l 0) ∧ Below w.heap.size w wr) (fun i _ => l.length - (intOf i).toNat)
  case atStart => exact ⟨0, Nat.zero_le _, rfl, by simp [Hid], Below.refl _ _⟩
  case round =>
    obtain ⟨k, hk, rfl, HI, hB⟩ := hrel
    by_cases hlt : k < l.length
    · obtain ⟨ad, rfl, g0, g1, g2, g3⟩ := at_T38 (Kd.C_below HR.out hB) (k : Int) (by omega) (by omega)
      have hrd : rd_T38 l (k : Int) = l[k] := by simp [rd_T38, hlt]
      rw [hrd, Int.toNat_natCast] at g0 g1 g2 g3
      have hcS := HP.out wr l[k] (List.getElem_mem hlt) hB
      have hI : idxC p (l.drop k) k = if p l[k] then (k : Int) else idxC p (l.drop (k + 1)) ((k + 1 : Nat) : Int) := by
        rw [List.drop_eq_getElem_cons hlt]; simp only [idxC]; rfl
      rw [HI.out] at hI
      clear HI hrd
      generalize l[k] = x at *
      have HcS := Lib.hid hcS; clear hcS
      have i1 : (k : Int) < (l.length : Int) := by omega
      cases hx : p x with
      | true =>
        rw [hx] at HcS hI
        have HI := Lib.hid hI; clear hI
        go_wp2_with (go_at_fn g; refine HcS.out.mono ?_; rintro e W' ⟨rfl, hbc⟩)
        go_ret
        exact ⟨by rw [HI.out]; rfl, hB.trans (hbc.mono hB.size)⟩
      | false =>
        rw [hx] at HcS hI
        have HI := Lib.hid hI; clear hI
        go_wp2_with (go_at_fn g; refine HcS.out.mono ?_; rintro e W' ⟨rfl, hbc⟩)
        go_roundw
        case rel => exact ⟨k + 1, by omega, by simp, by rw [HI.out]; rfl, hB.trans (hbc.mono hB.size)⟩
        case measure => simp [intOf]; omega
    · obtain rfl : k = l.length := by omega
      have hx : idxC p l 0 = -1 := by rw [← HI.out, List.drop_length]; rfl
      have HX := Lib.hid hx; clear hx HI
      go_wp2
      go_ret
      exact ⟨by rw [HX.out]; rfl, hB⟩
set_option maxRecDepth 100000 in
set_option maxHeartbeats 2000000 in
theorem containsFunc_cond (g : Nat) (lb : Array Value) (eg : ∀ args w, (callFunc g args).run Tryd.prog w = .ok (.enter g args) w) (p : S38 → Bool) (l : List S38) (hl : l.length ≤ 9223372036854775806) (A : Option Addr) (c : Nat) (w : World) (hr : Kd.C k38 w A l.length l)
    (hp : ∀ (W : World) (x : S38), x ∈ l → Below w.heap.size w W → Calls Tryd.prog g (#[.agg #[.string x.f0, .string x.f1, .string x.f2, .int .i64 x.f3]] ++ lb) W fun e w' => e = .returned (.bool (p x)) ∧ Below W.heap.size W w') :
    Calls Tryd.prog 43 #[.slice A l.length c, .func (.func g) #[] lb] w fun e w' => e = .returned (.bool (l.any p)) ∧ Below w.heap.size w w' := by
  have hI := indexFunc_cond g lb eg p l hl A c w hr hp
  have HI := Lib.hid hI
  have HA := Lib.hid (idxC_any p l 0 (Int.le_refl _))
  clear hI hr hp
  generalize idxC p l 0 = i at *
  go_enter Tryd.func43, Tryd.ntmps43
  go_wp2_with fail
  refine HI.out.mono ?_
  rintro e w2 ⟨rfl, hb⟩
  go_wp2
  go_ret
  exact ⟨by rw [← HA.out]; rfl, hb⟩
end Go.Proofs.YtodhmbnfliajiaaDoor.Q
