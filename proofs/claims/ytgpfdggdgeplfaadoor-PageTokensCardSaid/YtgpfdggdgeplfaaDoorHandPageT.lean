/- page.up, page.down, page.some, page.Forward, page.Back: what they compute, by hand (a range over a function). -/
import Derived.RangeFuncNested
import Derived.RangeFuncBound
import Derived.RangeFuncCalls
import Derived.RangeFuncLeaves
import Derived.Shelf.Abstract
import Derived.Shelf.RegionOpen
import Derived.WalkKit
import Derived.OwnWalkIn
import Derived.TacticsInMore
import Derived.LoopNIn
import Derived.LoopIn
import Derived.Maps.AppendAt
import Derived.Lib.Hide
import Derived.Test.YtgpfdggdgeplfaaDoorQx0
import Derived.Test.YtgpfdggdgeplfaaDoorQx1
namespace Go.Proofs.YtgpfdggdgeplfaaDoor.Q
open Go.RowKit Go.Shelf Go.Proofs.YtgpfdggdgeplfaaDoorW.PrintWords Go.Proofs.YtgpfdggdgeplfaaDoorW.PrintLast
attribute [local go_sem] Oper.semAt_some

/-- What a walk over places idx 0, idx 1, .. has told behind n steps: the shown ones. -/
def pgWalk (l : List Bool) (idx : Nat → Nat) (n : Nat) : List Int := ((List.range n).filter (fun j => l.getD (idx j) false)).map (fun j => ((idx j : Nat) : Int))
theorem pgWalk_hit {l : List Bool} {idx : Nat → Nat} {n : Nat} (h : l.getD (idx n) false = true) : pgWalk l idx (n + 1) = pgWalk l idx n ++ [((idx n : Nat) : Int)] := by
  unfold pgWalk; rw [List.range_succ, List.filter_append, List.map_append]; simp only [List.filter_cons, h, if_true, List.filter_nil, List.map_cons, List.map_nil]
theorem pgWalk_miss {l : List Bool} {idx : Nat → Nat} {n : Nat} (h : l.getD (idx n) false = false) : pgWalk l idx (n + 1) = pgWalk l idx n := by
  unfold pgWalk; rw [List.range_succ, List.filter_append, List.map_append]; simp only [List.filter_cons, h, Bool.false_eq_true, if_false, List.filter_nil, List.map_nil, List.append_nil]
theorem pgWalk_len (l : List Bool) (idx : Nat → Nat) (n : Nat) : (pgWalk l idx n).length ≤ n := by
  unfold pgWalk; rw [List.length_map]; exact Nat.le_trans (List.length_filter_le _ _) (by simp)
theorem pgWalk_zero (l : List Bool) (idx : Nat → Nat) : pgWalk l idx 0 = [] := rfl
theorem pgWalk_prefix (l : List Bool) (idx : Nat → Nat) (n : Nat) : ∀ m, pgWalk l idx n <+: pgWalk l idx (n + m)
  | 0 => List.prefix_refl _
  | m + 1 => by
    refine (pgWalk_prefix l idx n m).trans ?_
    show _ <+: pgWalk l idx ((n + m) + 1)
    cases h : l.getD (idx (n + m)) false with
    | true => rw [pgWalk_hit h]; exact List.prefix_append _ _
    | false => rw [pgWalk_miss h]; exact List.prefix_refl _

theorem pgWalk_more {l : List Bool} {idx : Nat → Nat} {n n' N : Nat} {x : Int} (h : pgWalk l idx n' = pgWalk l idx n ++ [x]) (hN : n' ≤ N) : (pgWalk l idx n).length < (pgWalk l idx N).length := by
  have := (pgWalk_prefix l idx n' (N - n')).length_le
  rw [h, show n' + (N - n') = N from by omega] at this
  simp at this; omega

set_option maxRecDepth 100000 in
set_option maxHeartbeats 2000000 in
theorem up1_in (n : Nat) (hn : 1 ≤ n) (l Bf Bs n₀ : Nat) (A : Option Addr) (c : Nat) (xs : List Bool) (a : Nat) (ha : a ≤ xs.length) (hm : xs.length ≤ 9223372036854775806) (w0 : World) (hr : Kd.C Kd.bool w0 A xs.length xs)
    (J Jx : List Int → World → Prop)
    (hY : ∀ pre x W, J pre W → pre.length < (pgWalk xs (a + ·) (xs.length - a)).length → YieldAt Fence.wide (n - 1) Tryd.prog l #[.int .i64 x] W fun e W' =>
      (e = .returned (.bool true) ∧ J (pre ++ [x]) W' ∧ Below n₀ W W') ∨ (e = .returned (.bool false) ∧ Jx (pre ++ [x]) W'))
    (W : World) (hn0 : w0.heap.size ≤ n₀) (hb : Below w0.heap.size w0 W) (hBs : Bs < n₀)
    (hcf : W.cell? ⟨Bf, 0, none⟩ = some (.int .i64 a)) (hcs : W.cell? ⟨Bs, 0, none⟩ = some (.slice A xs.length c)) (h0 : J [] W) :
    CallsIn Fence.wide n Tryd.prog 31 #[.func (.yield l) #[] #[], .pointer (some ⟨Bf, 0, none⟩), .pointer (some ⟨Bs, 0, none⟩)] W fun e W' => (∃ v, e = .returned v) ∧
      ((∃ ys, ys = pgWalk xs (a + ·) (xs.length - a) ∧ J ys W') ∨ (∃ pre, (∃ k, k ≤ xs.length - a ∧ pre = pgWalk xs (a + ·) k) ∧ Jx pre W')) := by
  refine callsIn_of_wp Tryd.func31 rfl trivial ?_ rfl
  simp only [Tryd.ntmps31, List.size_toArray, List.length_cons, List.length_nil, Nat.reduceAdd, Nat.reduceSub, Array.replicate_succ, Array.replicate_zero, List.push_toArray, List.append_toArray, List.nil_append, List.cons_append]
  gi_wp2
  gi_loopw [4] (fun i wr => ∃ m : Nat, a ≤ m ∧ m ≤ xs.length ∧ i = .int .i64 m ∧ J (pgWalk xs (a + ·) (m - a)) wr ∧ Below n₀ W wr) (fun i _ => xs.length - (intOf i).toNat)
  case atStart => exact ⟨a, Nat.le_refl _, ha, rfl, by rw [Nat.sub_self]; exact h0, Below.refl _ _⟩
  case round =>
    obtain ⟨m, hma, hml, rfl, hJs, hnx⟩ := hrel
    have hcs' : wr.cell? ⟨Bs, 0, none⟩ = some (.slice A xs.length c) := (hnx.cell (p := ⟨Bs, 0, none⟩) hBs).trans hcs
    by_cases hlt : m < xs.length
    · have hC := Kd.C_below hr (hb.trans (hnx.mono hn0))
      obtain ⟨ad, rfl, hcell⟩ := Kd.at_bool hC (m : Int) (by omega) (by omega)
      have e1 : m - a + 1 = m + 1 - a := by omega
      have e2 : a + (m - a) = m := by omega
      have HE1 := Lib.hid e1; have HE2 := Lib.hid e2; clear e1 e2
      rw [Int.toNat_natCast] at hcell
      cases hx : rdOf false xs (m : Int) with
      | true =>
        rw [hx] at hcell
        have hh : pgWalk xs (a + ·) (m + 1 - a) = pgWalk xs (a + ·) (m - a) ++ [(m : Int)] := by
          rw [← HE1.out, pgWalk_hit (by simpa [rdOf, HE2.out] using hx)]; simp [HE2.out]
        have HH := Lib.hid hh; clear hh
        have hx' := Lib.hid hx; clear hx
        obtain ⟨fn, tmps, assign, body, hy, hR⟩ := hY _ (m : Int) wr hJs (pgWalk_more HH.out (by omega))
        gi_wp2
        refine hR.mono ?_
        rintro e W3 (⟨rfl, hJ3, hk3⟩ | ⟨rfl, hJx3⟩)
        · gi_wp2
          go_roundw
          case rel => exact ⟨m + 1, by omega, by omega, by simp, by rw [HH.out]; exact hJ3, hnx.trans hk3⟩
          case measure => simp [intOf]; omega
        · gi_wp2
          refine bodyPost_ret (results_none rfl _ _ _) rfl ?_
          exact ⟨⟨_, rfl⟩, .inr ⟨_, ⟨m + 1 - a, by omega, HH.out.symm⟩, hJx3⟩⟩
      | false =>
        rw [hx] at hcell
        have hh : pgWalk xs (a + ·) (m + 1 - a) = pgWalk xs (a + ·) (m - a) := by
          rw [← HE1.out, pgWalk_miss (by simpa [rdOf, HE2.out] using hx)]
        have HH := Lib.hid hh; clear hh
        have hx' := Lib.hid hx; clear hx
        gi_wp2
        refine ⟨fun _ h => (by cases h), ?_⟩
        gi_wp2
        go_roundw
        case rel => exact ⟨m + 1, by omega, by omega, by simp, by rw [HH.out]; exact hJs, hnx⟩
        case measure => simp [intOf]; omega
    · obtain rfl : m = xs.length := by omega
      gi_wp2
      go_end0
      exact ⟨⟨_, rfl⟩, .inl ⟨_, rfl, hJs⟩⟩

set_option maxRecDepth 100000 in
set_option maxHeartbeats 2000000 in
theorem down1_in (n : Nat) (hn : 1 ≤ n) (l Bf Bs n₀ : Nat) (A : Option Addr) (c : Nat) (xs : List Bool) (a : Nat) (ha : a ≤ xs.length) (hm : xs.length ≤ 9223372036854775806) (w0 : World) (hr : Kd.C Kd.bool w0 A xs.length xs)
    (J Jx : List Int → World → Prop)
    (hY : ∀ pre x W, J pre W → pre.length < (pgWalk xs (a - 1 - ·) a).length → YieldAt Fence.wide (n - 1) Tryd.prog l #[.int .i64 x] W fun e W' =>
      (e = .returned (.bool true) ∧ J (pre ++ [x]) W' ∧ Below n₀ W W') ∨ (e = .returned (.bool false) ∧ Jx (pre ++ [x]) W'))
    (W : World) (hn0 : w0.heap.size ≤ n₀) (hb : Below w0.heap.size w0 W) (hBs : Bs < n₀)
    (hcf : W.cell? ⟨Bf, 0, none⟩ = some (.int .i64 a)) (hcs : W.cell? ⟨Bs, 0, none⟩ = some (.slice A xs.length c)) (h0 : J [] W) :
    CallsIn Fence.wide n Tryd.prog 32 #[.func (.yield l) #[] #[], .pointer (some ⟨Bf, 0, none⟩), .pointer (some ⟨Bs, 0, none⟩)] W fun e W' => (∃ v, e = .returned v) ∧
      ((∃ ys, ys = pgWalk xs (a - 1 - ·) a ∧ J ys W') ∨ (∃ pre, (∃ k, k ≤ a ∧ pre = pgWalk xs (a - 1 - ·) k) ∧ Jx pre W')) := by
  refine callsIn_of_wp Tryd.func32 rfl trivial ?_ rfl
  simp only [Tryd.ntmps32, List.size_toArray, List.length_cons, List.length_nil, Nat.reduceAdd, Nat.reduceSub, Array.replicate_succ, Array.replicate_zero, List.push_toArray, List.append_toArray, List.nil_append, List.cons_append]
  gi_wp2
  gi_loopw [4] (fun i wr => ∃ m : Nat, m ≤ a ∧ i = .int .i64 ((m : Int) - 1) ∧ J (pgWalk xs (a - 1 - ·) (a - m)) wr ∧ Below n₀ W wr) (fun i _ => ((intOf i) + 1).toNat)
  case atStart => exact ⟨a, Nat.le_refl _, rfl, by rw [Nat.sub_self]; exact h0, Below.refl _ _⟩
  case round =>
    obtain ⟨m, hma, rfl, hJs, hnx⟩ := hrel
    have hcs' : wr.cell? ⟨Bs, 0, none⟩ = some (.slice A xs.length c) := (hnx.cell (p := ⟨Bs, 0, none⟩) hBs).trans hcs
    by_cases hlt : 0 < m
    · obtain ⟨q, rfl⟩ : ∃ q, m = q + 1 := ⟨m - 1, by omega⟩
      have hC := Kd.C_below hr (hb.trans (hnx.mono hn0))
      obtain ⟨ad, rfl, hcell⟩ := Kd.at_bool hC (q : Int) (by omega) (by omega)
      have e0 : (((q + 1 : Nat) : Int) - 1) = (q : Int) := by omega
      rw [e0]
      have e1 : a - (q + 1) + 1 = a - q := by omega
      have e2 : a - 1 - (a - (q + 1)) = q := by omega
      have HE1 := Lib.hid e1; have HE2 := Lib.hid e2; clear e0 e1 e2
      rw [Int.toNat_natCast] at hcell
      cases hx : rdOf false xs (q : Int) with
      | true =>
        rw [hx] at hcell
        have hh : pgWalk xs (a - 1 - ·) (a - q) = pgWalk xs (a - 1 - ·) (a - (q + 1)) ++ [(q : Int)] := by
          rw [← HE1.out, pgWalk_hit (by simpa [rdOf, HE2.out] using hx)]; simp only [HE2.out]
        have HH := Lib.hid hh; clear hh
        have hx' := Lib.hid hx; clear hx
        obtain ⟨fn, tmps, assign, body, hy, hR⟩ := hY _ (q : Int) wr hJs (pgWalk_more HH.out (by omega))
        gi_wp2
        refine hR.mono ?_
        rintro e W3 (⟨rfl, hJ3, hk3⟩ | ⟨rfl, hJx3⟩)
        · gi_wp2
          go_roundw
          case rel => exact ⟨q, by omega, by simp, by rw [HH.out]; exact hJ3, hnx.trans hk3⟩
          case measure => simp [intOf]
        · gi_wp2
          refine bodyPost_ret (results_none rfl _ _ _) rfl ?_
          exact ⟨⟨_, rfl⟩, .inr ⟨_, ⟨a - q, by omega, HH.out.symm⟩, hJx3⟩⟩
      | false =>
        rw [hx] at hcell
        have hh : pgWalk xs (a - 1 - ·) (a - q) = pgWalk xs (a - 1 - ·) (a - (q + 1)) := by
          rw [← HE1.out, pgWalk_miss (by simpa [rdOf, HE2.out] using hx)]
        have HH := Lib.hid hh; clear hh
        have hx' := Lib.hid hx; clear hx
        gi_wp2
        refine ⟨fun _ h => (by cases h), ?_⟩
        gi_wp2
        go_roundw
        case rel => exact ⟨q, by omega, by simp, by rw [HH.out]; exact hJs, hnx⟩
        case measure => simp [intOf]
    · obtain rfl : m = 0 := by omega
      gi_wp2
      go_end0
      exact ⟨⟨_, rfl⟩, .inl ⟨_, rfl, hJs⟩⟩

/-- page.up, page.down: the boxes are laid, the function value captures them. -/
theorem up_in (n : Nat) (A : Option Addr) (m c : Nat) (a : Int) (w : World) :
    CallsIn Fence.wide n Tryd.prog 20 #[.slice A m c, .int .i64 a] w fun e w' => e = .returned (.func (.func 31) #[] #[.pointer (some ⟨w.heap.size + 1, 0, none⟩), .pointer (some ⟨w.heap.size, 0, none⟩)]) ∧ w' = (w.alloc (.cells #[.slice A m c] 34)).alloc (.cells #[.int .i64 a] 3) := by
  refine callsIn_of_wp Tryd.func20 rfl trivial ?_ rfl
  simp only [Tryd.ntmps20, List.size_toArray, List.length_cons, List.length_nil, Nat.reduceAdd, Nat.reduceSub, Array.replicate_succ, Array.replicate_zero, List.push_toArray, List.append_toArray, List.nil_append, List.cons_append]
  gi_wp2
  go_ret
  exact ⟨rfl, rfl⟩
theorem down_in (n : Nat) (A : Option Addr) (m c : Nat) (a : Int) (w : World) :
    CallsIn Fence.wide n Tryd.prog 21 #[.slice A m c, .int .i64 a] w fun e w' => e = .returned (.func (.func 32) #[] #[.pointer (some ⟨w.heap.size + 1, 0, none⟩), .pointer (some ⟨w.heap.size, 0, none⟩)]) ∧ w' = (w.alloc (.cells #[.slice A m c] 34)).alloc (.cells #[.int .i64 a] 3) := by
  refine callsIn_of_wp Tryd.func21 rfl trivial ?_ rfl
  simp only [Tryd.ntmps21, List.size_toArray, List.length_cons, List.length_nil, Nat.reduceAdd, Nat.reduceSub, Array.replicate_succ, Array.replicate_zero, List.push_toArray, List.append_toArray, List.nil_append, List.cons_append]
  gi_wp2
  go_ret
  exact ⟨rfl, rfl⟩

theorem pg_infoI : (Tryd.prog.info? 3).map (fun i => (i.zero, i.size, i.bytes)) = some (some (.int .i64 0), 1, 8) := by kernel_rfl

/-- What page.some holds between two rounds. -/
def PgI (s lim : Nat) (w : World) (pre : List Int) (W : World) : Prop :=
  (((∃ v, Boxed W (s + 1 + 1 + 1) 35 v ∧ W.ownsRow (s + 1 + 1 + 1) 3 1 v pre.length (pre.map (Value.int .i64)) ∧ True) ∧ Boxed W s 3 (.int .i64 lim)) ∧ (Boxed W (s + 1) 35 (.slice none 0 0) ∧ Boxed W (s + 1 + 1) 4 (.bool false))) ∧ (pre.length < lim ∧ Below s w W)
/-- .. and behind a round that left. -/
def PgX (s lim : Nat) (w : World) (c : Code) (pre : List Int) (W : World) : Prop :=
  (((∃ v, Boxed W (s + 1) 35 v ∧ W.ownsRow (s + 1 + 1 + 1) 3 1 v pre.length (pre.map (Value.int .i64)) ∧ True) ∧ Boxed W (s + 1 + 1) 4 (.bool true)) ∧ (c = .ret ∧ pre.length = lim)) ∧ Below s w W
theorem pgI_own (s lim : Nat) (w : World) (hs : s = w.heap.size) (B : Nat) (hB : s ≤ B) : OwnFrom B (PgI s lim w) := by
  refine OwnFrom.and (OwnFrom.and (OwnFrom.and (Own.from (holdsRow_own (s + 1 + 1 + 1) (s + 1 + 1 + 1) 35 3 1 (fun pre : List Int => pre.length) (fun pre => pre.map (Value.int .i64)) (fun _ _ => True)) _) (Own.from (boxed_own s 3 (fun _ : List Int => .int .i64 lim)) _)) (OwnFrom.and (Own.from (boxed_own (s + 1) 35 (fun _ : List Int => .slice none 0 0)) _) (Own.from (boxed_own (s + 1 + 1) 4 (fun _ : List Int => .bool false)) _))) (OwnFrom.and (fun _ _ _ _ h _ _ => h) (ownFrom_below (by omega) hB))
theorem pgX_own (s lim : Nat) (w : World) (hs : s = w.heap.size) (B : Nat) (hB : s ≤ B) (c : Code) : OwnFrom B (PgX s lim w c) := by
  refine OwnFrom.and (OwnFrom.and (OwnFrom.and (Own.from (holdsRow_own (s + 1 + 1 + 1) (s + 1) 35 3 1 (fun pre : List Int => pre.length) (fun pre => pre.map (Value.int .i64)) (fun _ _ => True)) _) (Own.from (boxed_own (s + 1 + 1) 4 (fun _ : List Int => .bool true)) _)) (fun _ _ _ _ h _ _ => h)) (ownFrom_below (by omega) hB)

/-- A box ahead of the row lies on, behind an append. -/
theorem pg_far {W w1 : World} {s B : Nat} {t e : TypeId} {u v : Value} {k : Nat} {xs : List Value} {tmp : Obj} (h : Boxed W B t u) (hr : W.ownsRow s e 1 v k xs) (hg : (W.alloc tmp).grownBy w1 v.ownBlock) (hB : B < s) : Boxed w1 B t u :=
  (h.alloc tmp).kept hg (fun e' => by have := own_base hr B e'.symm; omega)
theorem pg_box {W : World} {B : Nat} {t : TypeId} {u : Value} (h : Boxed W B t u) {p : Addr} (hne : B ≠ p.block) (z : Value) : Boxed (W.setCell p z) B t u := (Below.heap_setCell W p z B hne).trans h
theorem pg_row {W : World} {s : Nat} {e : TypeId} {v : Value} {k : Nat} {xs : List Value} (h : W.ownsRow s e 1 v k xs) {p : Addr} (hp : p.block < s) (z : Value) : (W.setCell p z).ownsRow s e 1 v k xs :=
  own_setCell h (fun e' => by have := own_base h p.block e'.symm; omega) z
theorem pg_put {W : World} {B : Nat} {t : TypeId} {u : Value} (h : Boxed W B t u) {D : Nat} (hne : B ≠ D) (o : Obj) : Boxed (W.putObj D o) B t u := h.kept (grownBy_putObj' W D o) (by simpa using hne)

set_option maxRecDepth 100000 in
set_option maxHeartbeats 4000000 in
theorem some_in (n : Nat) (hn : 3 ≤ n) (g : Nat) (eg : Enters Tryd.prog g) (lb : Array Value) (xs : List Int) (lim : Nat) (hlim : 1 ≤ lim) (hlen : xs.length ≤ 1000000000000) (w : World)
    (hS : SeqStopsK Fence.wide (n - 1) Tryd.prog g lb (fun x : Int => #[Value.int .i64 x]) (Below w.heap.size) (fun ys => ys = xs) (fun pre => pre <+: xs) xs.length w) :
    CallsIn Fence.wide n Tryd.prog 19 #[.func (.func g) #[] lb, .int .i64 lim] w fun e W' => ∃ v, e = .returned (.tuple #[v, .bool (decide (lim ≤ xs.length))]) ∧ W'.ownsRow w.heap.size 3 1 v (xs.take lim).length ((xs.take lim).map (Value.int .i64)) ∧ Below w.heap.size w W' := by
  have h1 : 1 ≤ n := by omega
  obtain ⟨i0, hi, hz0, hz1, hz2⟩ := info_parts pg_infoI
  refine callsIn_of_wp_marks Tryd.func19 rfl trivial ?_ rfl
  simp only [Tryd.ntmps19, List.size_toArray, List.length_cons, List.length_nil, Nat.reduceAdd, Nat.reduceSub, Array.replicate_succ, Array.replicate_zero, List.push_toArray, List.append_toArray, List.nil_append, List.cons_append]
  gi_wp2
  have b0 := (((Boxed.new w 3 (.int .i64 lim)).alloc (.cells #[.slice none 0 0] 35)).alloc (.cells #[.bool false] 4)).alloc (.cells #[.slice none 0 0] 35)
  have b1 := ((Boxed.new (w.alloc (.cells #[.int .i64 lim] 3)) 35 (.slice none 0 0)).alloc (.cells #[.bool false] 4)).alloc (.cells #[.slice none 0 0] 35)
  have b2 := (Boxed.new ((w.alloc (.cells #[.int .i64 lim] 3)).alloc (.cells #[.slice none 0 0] 35)) 4 (.bool false)).alloc (.cells #[.slice none 0 0] 35)
  have b3 := Boxed.new (((w.alloc (.cells #[.int .i64 lim] 3)).alloc (.cells #[.slice none 0 0] 35)).alloc (.cells #[.bool false] 4)) 35 (.slice none 0 0)
  simp only [World.size_alloc] at b1 b2 b3
  have hB0 : Below w.heap.size w ((((w.alloc (.cells #[.int .i64 lim] 3)).alloc (.cells #[.slice none 0 0] 35)).alloc (.cells #[.bool false] 4)).alloc (.cells #[.slice none 0 0] 35)) :=
    ((((Below.refl _ w).alloc (Nat.le_refl _) _).alloc (by simp) _).alloc (by simp; omega) _).alloc (by simp; omega) _
  refine wpIn_rangeFunc_ownG rfl h1 (gf := g) (lb := lb) rfl trivial eg hS belowK_t (belowK_b (by simp; omega)) hB0 (fun _ => rfl)
    (PgI w.heap.size lim w) (PgX w.heap.size lim w) (pgI_own _ _ _ rfl _ (by simp; omega)) (pgX_own _ _ _ rfl _ (by simp; omega))
    ⟨⟨⟨⟨_, b3, World.ownsRow_nil _ _ _ _, trivial⟩, b0⟩, b1, b2⟩, by show 0 < lim; omega, hB0⟩ ?a1 ?assign ?body ?done ?stop
  case assign =>
    intro l x W K hK
    gi_wp2
    exact hK
  case body =>
    rintro l pre x W ⟨⟨⟨⟨v, hv, hrow, _⟩, c0⟩, c1, c2⟩, hpl, hB⟩ hlt
    have hc := hv.cell
    have hc0 := c0.cell
    have hc1 := c1.cell
    have hc2 := c2.cell
    have hf1 := c1.frozen
    have hf2 := c2.frozen
    gi_wp2_with (gi_at_builtin; refine wpListIn_append_own _ rfl _ _ 35 rfl (w.heap.size + 1 + 1 + 1) 3 i0 (.int .i64 0) 1 8 Tryd.underlying35 hi hz0 hz1 hz2 rfl (by decide) _ _ _ rfl (hrow.alloc _) ⟨W.heap.size, 0, none⟩ 1 1 [.int .i64 x] rfl rfl (cell_one_new _ _ _) (by simp [Value.oneCell']) (by unfold maxLen; omega) (by omega) (by have := hv.lt; simp; omega) ?_; intro v' w1 hown' hgrow _; obtain ⟨g', cap', rfl⟩ := ownsRow_succ hown'; obtain ⟨hv1, hv2, hr2, hk2, hb2⟩ := hv.appended (by decide) hrow (by have := hv.lt; omega) (by omega) hown' hgrow; have hcc1 := hv1.cell; have hff1 := hv1.frozen; have hcc0 := (pg_far c0 hrow hgrow (by omega)).cell; have d1 := pg_far c1 hrow hgrow (by omega); have d2 := pg_far c2 hrow hgrow (by omega); have hd1 := d1.frozen; have hd2 := d2.frozen; have hd3 := d1.cell; have hd4 := d2.cell)
    · have hq : ((pre.length : Int) + 1 == (lim : Int)) = true := by assumption
      have hq' : pre.length + 1 = lim := by have := beq_iff_eq.1 hq; omega
      have x1 := (pg_box d1 (p := ⟨w.heap.size + 1 + 1 + 1, 0, none⟩) (by simp) (.slice (some ⟨g', 0, none⟩) (pre.length + 1) cap')).set (.slice (some ⟨g', 0, none⟩) (pre.length + 1) cap')
      have x2 := (pg_box (pg_box d2 (p := ⟨w.heap.size + 1 + 1 + 1, 0, none⟩) (by simp) (.slice (some ⟨g', 0, none⟩) (pre.length + 1) cap')) (p := ⟨w.heap.size + 1, 0, none⟩) (by simp) (.slice (some ⟨g', 0, none⟩) (pre.length + 1) cap')).set (.bool true)
      refine ⟨((hk2.trans (KeepsOthers.setCell _ _ _)).trans (KeepsOthers.setCell _ _ _)).from _, ⟨⟨⟨_, pg_box x1 (by simp) _, by simpa using pg_row (pg_row hr2 (p := ⟨w.heap.size + 1, 0, none⟩) (by show w.heap.size + 1 < w.heap.size + 1 + 1 + 1; omega) _) (p := ⟨w.heap.size + 1 + 1, 0, none⟩) (by show w.heap.size + 1 + 1 < w.heap.size + 1 + 1 + 1; omega) (.bool true), trivial⟩, x2⟩, rfl, by simpa using hq'⟩, ?_⟩
      exact ((hB.trans (hb2.mono (by omega))).setCell (Nat.le_succ _) _).setCell (by show w.heap.size ≤ w.heap.size + 1 + 1; omega) _
    · refine ⟨hk2.from _, hb2.mono (by omega), ⟨⟨⟨⟨_, hv2, by simpa using hr2, trivial⟩, pg_box (pg_far c0 hrow hgrow (by omega)) (by simp; omega) _⟩, pg_box d1 (by simp) _, pg_box d2 (by simp) _⟩, ?_, hB.trans (hb2.mono (by omega))⟩⟩
      have hq : ((pre.length : Int) + 1 == (lim : Int)) = false := by assumption
      have hq' := beq_eq_false_iff_ne.1 hq
      simp; omega
  case done =>
    rintro D ys W hD rfl ⟨⟨⟨⟨v, hv, hrow, _⟩, c0⟩, c1, c2⟩, hpl, hB⟩ hK
    obtain ⟨Ar, cr, rfl⟩ := own_slice hrow
    have hc := hv.cell
    have hc1 := c1.cell
    have hc2 := c2.cell
    have hf1 := c1.frozen
    have hf2 := c2.frozen
    gi_wp2
    have hD' : w.heap.size + 1 + 1 + 1 + 1 ≤ D := by simpa using hD
    have y1 := pg_box (c1.set (.slice Ar ys.length cr)) (p := ⟨w.heap.size + 1 + 1, 0, none⟩) (by simp) (.bool false)
    have y2 := (pg_box c2 (p := ⟨w.heap.size + 1, 0, none⟩) (by simp) (.slice Ar ys.length cr)).set (.bool false)
    have hK2 : ((W.setCell ⟨w.heap.size + 1, 0, none⟩ (.slice Ar ys.length cr)).setCell ⟨w.heap.size + 1 + 1, 0, none⟩ (.bool false)).heap[D]? = some (.deferred (some [])) :=
      (KeepsOthers.setCell _ _ _).same D _ ((KeepsOthers.setCell _ _ _).same D _ hK rfl) rfl
    have z1 := (pg_put y1 (D := D) (by omega) (.deferred none)).cell
    have z2 := (pg_put y2 (D := D) (by omega) (.deferred none)).cell
    refine ⟨by simp, .inl ⟨_, _, rfl, run_takeDeferred hK2, ?_⟩⟩
    refine ⟨.tuple #[.slice Ar ys.length cr, .bool false], by simp [results, Tryd.results19, go_sem, z1, z2], .slice Ar ys.length cr, by rw [decide_eq_false (by omega)], ?_, ?_⟩
    · rw [List.take_of_length_le (by omega)]
      exact ownsRow_putObj (own_weaken (pg_row (pg_row hrow (p := ⟨w.heap.size + 1, 0, none⟩) (by show w.heap.size + 1 < w.heap.size + 1 + 1 + 1; omega) _) (p := ⟨w.heap.size + 1 + 1, 0, none⟩) (by show w.heap.size + 1 + 1 < w.heap.size + 1 + 1 + 1; omega) _) (by omega)) _ hK2 rfl
    · exact (((hB.setCell (Nat.le_succ _) _).setCell (by show w.heap.size ≤ w.heap.size + 1 + 1; omega) _)).trans (belowK_b (w := w) (Nat.le_refl _) _ D _ _ (by omega) hK2 rfl rfl)
  case stop =>
    rintro D cc pre W hD hpre ⟨⟨⟨⟨v, hv, hrow, _⟩, c2⟩, rfl, hpl⟩, hB⟩ hK
    obtain ⟨Ar, cr, rfl⟩ := own_slice hrow
    gi_wp2
    have hD' : w.heap.size + 1 + 1 + 1 + 1 ≤ D := by simpa using hD
    have z1 := (pg_put hv (D := D) (by omega) (.deferred none)).cell
    have z2 := (pg_put c2 (D := D) (by omega) (.deferred none)).cell
    have hlp := hpre.length_le
    refine ⟨by simp, .inl ⟨_, _, rfl, run_takeDeferred hK, ?_⟩⟩
    refine ⟨.tuple #[.slice Ar pre.length cr, .bool true], by simp [results, Tryd.results19, go_sem, z1, z2], .slice Ar pre.length cr, by rw [decide_eq_true (by omega)], ?_, ?_⟩
    · rw [← hpl, ← List.prefix_iff_eq_take.1 hpre]
      exact ownsRow_putObj (own_weaken hrow (by omega)) _ hK rfl
    · exact hB.trans (belowK_b (w := w) (Nat.le_refl _) _ D _ _ (by omega) hK rfl rfl)

theorem up_stops (n : Nat) (hn : 1 ≤ n) (A : Option Addr) (c : Nat) (xs : List Bool) (a : Nat) (ha : a ≤ xs.length) (hm : xs.length ≤ 9223372036854775806) (w : World) (hr : Kd.C Kd.bool w A xs.length xs) :
    SeqStopsK Fence.wide n Tryd.prog 31 #[.pointer (some ⟨w.heap.size + 1, 0, none⟩), .pointer (some ⟨w.heap.size, 0, none⟩)] (fun x : Int => #[Value.int .i64 x]) (Below ((w.alloc (.cells #[.slice A xs.length c] 34)).alloc (.cells #[.int .i64 a] 3)).heap.size)
      (fun ys => ys = pgWalk xs (a + ·) (xs.length - a)) (fun pre => pre <+: pgWalk xs (a + ·) (xs.length - a)) (pgWalk xs (a + ·) (xs.length - a)).length ((w.alloc (.cells #[.slice A xs.length c] 34)).alloc (.cells #[.int .i64 a] 3)) := fun l J Jx W hW _ _ hY h0 => by
  have b0 := (Boxed.new w 34 (.slice A xs.length c)).alloc (.cells #[.int .i64 a] 3)
  have b1 := Boxed.new (w.alloc (.cells #[.slice A xs.length c] 34)) 3 (.int .i64 a)
  simp only [World.size_alloc] at b1 hW ⊢
  refine (up1_in n hn l (w.heap.size + 1) w.heap.size (w.heap.size + 1 + 1) A c xs a ha hm w hr J Jx (by simpa using hY) W (by omega) ?_ (by omega) ?_ ?_ h0).mono ?_
  · exact (((Below.refl _ w).alloc (Nat.le_refl _) _).alloc (by simp) _).trans (hW.mono (by omega))
  · exact (hW.cell (p := ⟨w.heap.size + 1, 0, none⟩) (by show w.heap.size + 1 < _; omega)).trans b1.cell
  · exact (hW.cell (p := ⟨w.heap.size, 0, none⟩) (by show w.heap.size < _; omega)).trans b0.cell
  · rintro e W' ⟨hv, ⟨ys, rfl, hJ⟩ | ⟨pre, ⟨k, hk, rfl⟩, hJ⟩⟩
    · exact ⟨hv, .inl ⟨_, rfl, hJ⟩⟩
    · refine ⟨hv, .inr ⟨_, ?_, hJ⟩⟩
      have := pgWalk_prefix xs (a + ·) k (xs.length - a - k)
      rwa [show k + (xs.length - a - k) = xs.length - a from by omega] at this
theorem down_stops (n : Nat) (hn : 1 ≤ n) (A : Option Addr) (c : Nat) (xs : List Bool) (a : Nat) (ha : a ≤ xs.length) (hm : xs.length ≤ 9223372036854775806) (w : World) (hr : Kd.C Kd.bool w A xs.length xs) :
    SeqStopsK Fence.wide n Tryd.prog 32 #[.pointer (some ⟨w.heap.size + 1, 0, none⟩), .pointer (some ⟨w.heap.size, 0, none⟩)] (fun x : Int => #[Value.int .i64 x]) (Below ((w.alloc (.cells #[.slice A xs.length c] 34)).alloc (.cells #[.int .i64 a] 3)).heap.size)
      (fun ys => ys = pgWalk xs (a - 1 - ·) a) (fun pre => pre <+: pgWalk xs (a - 1 - ·) a) (pgWalk xs (a - 1 - ·) a).length ((w.alloc (.cells #[.slice A xs.length c] 34)).alloc (.cells #[.int .i64 a] 3)) := fun l J Jx W hW _ _ hY h0 => by
  have b0 := (Boxed.new w 34 (.slice A xs.length c)).alloc (.cells #[.int .i64 a] 3)
  have b1 := Boxed.new (w.alloc (.cells #[.slice A xs.length c] 34)) 3 (.int .i64 a)
  simp only [World.size_alloc] at b1 hW ⊢
  refine (down1_in n hn l (w.heap.size + 1) w.heap.size (w.heap.size + 1 + 1) A c xs a ha hm w hr J Jx (by simpa using hY) W (by omega) ?_ (by omega) ?_ ?_ h0).mono ?_
  · exact (((Below.refl _ w).alloc (Nat.le_refl _) _).alloc (by simp) _).trans (hW.mono (by omega))
  · exact (hW.cell (p := ⟨w.heap.size + 1, 0, none⟩) (by show w.heap.size + 1 < _; omega)).trans b1.cell
  · exact (hW.cell (p := ⟨w.heap.size, 0, none⟩) (by show w.heap.size < _; omega)).trans b0.cell
  · rintro e W' ⟨hv, ⟨ys, rfl, hJ⟩ | ⟨pre, ⟨k, hk, rfl⟩, hJ⟩⟩
    · exact ⟨hv, .inl ⟨_, rfl, hJ⟩⟩
    · refine ⟨hv, .inr ⟨_, ?_, hJ⟩⟩
      have := pgWalk_prefix xs (a - 1 - ·) k (a - k)
      rwa [show k + (a - k) = a from by omega] at this

/-- page.some over page.up's places, and over page.down's. -/
theorem some_up (A : Option Addr) (c : Nat) (xs : List Bool) (a lim : Nat) (ha : a ≤ xs.length) (hm : xs.length ≤ 1000000000000) (hlim : 1 ≤ lim) (w : World) (hr : Kd.C Kd.bool w A xs.length xs) :
    Calls Tryd.prog 19 #[.func (.func 31) #[] #[.pointer (some ⟨w.heap.size + 1, 0, none⟩), .pointer (some ⟨w.heap.size, 0, none⟩)], .int .i64 lim] ((w.alloc (.cells #[.slice A xs.length c] 34)).alloc (.cells #[.int .i64 a] 3)) fun e W' => ∃ v, e = .returned (.tuple #[v, .bool (decide (lim ≤ (pgWalk xs (a + ·) (xs.length - a)).length))]) ∧ Kd.R (Kd.int .i64) 3 W' w.heap.size (fun _ => True) v ((pgWalk xs (a + ·) (xs.length - a)).take lim) ∧ Below w.heap.size w W' := by
  have hl := pgWalk_len xs (a + ·) (xs.length - a)
  refine callsIn_wide.1 ((some_in 3 (Nat.le_refl _) _ (enters_of Tryd.func31 (by kernel_rfl) rfl) _ (pgWalk xs (a + ·) (xs.length - a)) lim hlim (by omega) _ (up_stops 2 (by omega) A c xs a ha (by omega) w hr)).mono ?_)
  rintro e W' ⟨v, rfl, ho, hb⟩
  exact ⟨v, rfl, Kd.R_of_own (enc := Value.int .i64) (h1 := fun _ => rfl) (own_weaken ho (by simp; omega)) (fun _ _ => trivial), (((Below.refl _ w).alloc (Nat.le_refl _) _).alloc (by simp) _).trans (hb.mono (by simp; omega))⟩
theorem some_down (A : Option Addr) (c : Nat) (xs : List Bool) (a lim : Nat) (ha : a ≤ xs.length) (hm : xs.length ≤ 1000000000000) (hlim : 1 ≤ lim) (w : World) (hr : Kd.C Kd.bool w A xs.length xs) :
    Calls Tryd.prog 19 #[.func (.func 32) #[] #[.pointer (some ⟨w.heap.size + 1, 0, none⟩), .pointer (some ⟨w.heap.size, 0, none⟩)], .int .i64 lim] ((w.alloc (.cells #[.slice A xs.length c] 34)).alloc (.cells #[.int .i64 a] 3)) fun e W' => ∃ v, e = .returned (.tuple #[v, .bool (decide (lim ≤ (pgWalk xs (a - 1 - ·) a).length))]) ∧ Kd.R (Kd.int .i64) 3 W' w.heap.size (fun _ => True) v ((pgWalk xs (a - 1 - ·) a).take lim) ∧ Below w.heap.size w W' := by
  have hl := pgWalk_len xs (a - 1 - ·) a
  refine callsIn_wide.1 ((some_in 3 (Nat.le_refl _) _ (enters_of Tryd.func32 (by kernel_rfl) rfl) _ (pgWalk xs (a - 1 - ·) a) lim hlim (by omega) _ (down_stops 2 (by omega) A c xs a ha (by omega) w hr)).mono ?_)
  rintro e W' ⟨v, rfl, ho, hb⟩
  exact ⟨v, rfl, Kd.R_of_own (enc := Value.int .i64) (h1 := fun _ => rfl) (own_weaken ho (by simp; omega)) (fun _ _ => trivial), (((Below.refl _ w).alloc (Nat.le_refl _) _).alloc (by simp) _).trans (hb.mono (by simp; omega))⟩

/-- page.clip's place. -/
def pgAt (l : List Bool) (from_ : Int) : Nat := (mn (mx 0 from_) (l.length : Int)).toNat
theorem pgAt_cast (l : List Bool) (a : Int) : ((pgAt l a : Nat) : Int) = mn (mx 0 a) (l.length : Int) := by unfold pgAt mn mx; split <;> split <;> omega
theorem pgAt_le (l : List Bool) (a : Int) : pgAt l a ≤ l.length := by have := pgAt_cast l a; unfold mn mx at this; split at this <;> split at this <;> omega
/-- The last number of a row. -/
def pgLast (l : List Int) : Int := l.getD (l.length - 1) 0

def page_Forward.f (l0 : List Bool) (a1 a2 : Int) : Option (List Int × Int) :=
  if 1000000000000 < l0.length then none else
  if a2 < 1 then some ([], (pgAt l0 a1 : Int)) else
  if a2.toNat ≤ (pgWalk l0 (pgAt l0 a1 + ·) (l0.length - pgAt l0 a1)).length then
    some ((pgWalk l0 (pgAt l0 a1 + ·) (l0.length - pgAt l0 a1)).take a2.toNat, pgLast ((pgWalk l0 (pgAt l0 a1 + ·) (l0.length - pgAt l0 a1)).take a2.toNat) + 1)
  else some (pgWalk l0 (pgAt l0 a1 + ·) (l0.length - pgAt l0 a1), (l0.length : Int))
def page_Back.f (l0 : List Bool) (a1 a2 : Int) : Option (List Int × Int) :=
  if 1000000000000 < l0.length then none else
  if a2 < 1 then some ([], (pgAt l0 a1 : Int)) else
  if a2.toNat ≤ (pgWalk l0 (pgAt l0 a1 - 1 - ·) (pgAt l0 a1)).length then
    some ((pgWalk l0 (pgAt l0 a1 - 1 - ·) (pgAt l0 a1)).take a2.toNat, pgLast ((pgWalk l0 (pgAt l0 a1 - 1 - ·) (pgAt l0 a1)).take a2.toNat))
  else some (pgWalk l0 (pgAt l0 a1 - 1 - ·) (pgAt l0 a1), 0)

theorem pgWalk_bound {l : List Bool} {idx : Nat → Nat} {n B : Nat} (h : ∀ j, j < n → idx j < B) : ∀ x ∈ pgWalk l idx n, 0 ≤ x ∧ x < B := by
  intro x hx
  unfold pgWalk at hx
  obtain ⟨j, hj, rfl⟩ := List.mem_map.1 hx
  have := h j (by simpa using (List.mem_filter.1 hj).1)
  omega
theorem pgLast_take {l : List Int} {n B : Nat} (h : ∀ x ∈ l, 0 ≤ x ∧ x < (B : Int)) (hn : 1 ≤ n) (hl : n ≤ l.length) : 0 ≤ pgLast (l.take n) ∧ pgLast (l.take n) < B := by
  unfold pgLast
  have hlen : (l.take n).length = n := by simp; omega
  rw [hlen, List.getD_eq_getElem?_getD, List.getElem?_eq_getElem (by omega)]
  exact h _ (List.mem_of_mem_take (List.getElem_mem _))

set_option maxRecDepth 100000 in
set_option maxHeartbeats 4000000 in
theorem page_Forward.calls (A0 : Option Addr) (c0 : Nat) (l0 : List Bool) (a1 : Int) (a2 : Int) (r1 : List Int) (r2 : Int) (w : World) (hr0 : Kd.C Kd.bool w A0 l0.length l0) (hc0 : l0.length ≤ c0) (h : page_Forward.f l0 a1 a2 = some (r1, r2)) :
    Calls Tryd.prog 12 #[.slice A0 l0.length c0, .int .i64 a1, .int .i64 a2] w fun e w' => ∃ v0_ : Value, e = .returned (.tuple #[v0_, .int .i64 r2]) ∧ Kd.R (Kd.int .i64) 3 w' w.heap.size (fun _ => True) v0_ r1 ∧ Below w.heap.size w w' := by
  unfold page_Forward.f at h
  by_cases hm : 1000000000000 < l0.length
  · rw [if_pos hm] at h; cases h
  rw [if_neg hm] at h
  have hcl := pgAt_cast l0 a1
  have hle := pgAt_le l0 a1
  have hclip := fun W hr => page_clip.calls A0 c0 l0 a1 (mn (mx 0 a1) (l0.length : Int)) W hr hc0 rfl
  rw [← hcl] at hclip
  clear hcl
  generalize pgAt l0 a1 = a at *
  have Hclip := Lib.hid hclip; clear hclip
  by_cases h1 : a2 < 1
  · rw [if_pos h1] at h
    injection h with h; injection h with h2 h3; subst h2; subst h3
    go_enter Tryd.func12, Tryd.ntmps12
    go_wp2_with fail
    refine (Hclip.out _ hr0).mono ?_
    rintro e w1 ⟨rfl, hb1⟩
    go_wp2
    go_ret2
    exact ⟨_, rfl, Kd.R_nil _ _ _ _ _, hb1⟩
  rw [if_neg h1] at h
  obtain ⟨lim, rfl⟩ : ∃ n : Nat, a2 = n := ⟨a2.toNat, by omega⟩
  rw [Int.toNat_natCast] at h
  have hlen := pgWalk_len l0 (a + ·) (l0.length - a)
  have hbd := pgWalk_bound (l := l0) (idx := (a + ·)) (n := l0.length - a) (B := l0.length) (fun j hj => by show a + j < _; omega)
  have hsome := fun W hr => some_up A0 c0 l0 a lim hle (by omega) (by omega) W hr
  generalize pgWalk l0 (a + ·) (l0.length - a) = ps at *
  have Hsome := Lib.hid hsome; clear hsome
  by_cases h2 : lim ≤ ps.length
  · rw [if_pos h2] at h
    injection h with h; injection h with h3 h4; subst h3; subst h4
    have hd : decide (lim ≤ ps.length) = true := decide_eq_true h2
    have hla := pgLast_take hbd (by omega : 1 ≤ lim) h2
    go_enter Tryd.func12, Tryd.ntmps12
    go_wp2_with fail
    refine (Hclip.out _ hr0).mono ?_
    rintro e w1 ⟨rfl, hb1⟩
    go_wp2_with fail
    refine (callsIn_wide.1 (up_in 1 A0 l0.length c0 (a : Int) w1)).mono ?_
    rintro e w2 ⟨rfl, rfl⟩
    go_wp2_with fail
    refine (Hsome.out _ (Kd.C_below hr0 hb1)).mono ?_
    rintro e w3 ⟨v, rfl, hR, hb3⟩
    obtain ⟨A, c, hv, hlc, hC⟩ := Kd.R_reads hR
    have htl : (ps.take lim).length = lim := by simp; omega
    obtain ⟨ad, hA, hcell⟩ := Kd.at_int hC ((lim : Int) - 1) (by omega) (by rw [htl]; omega)
    have hrd : rd (ps.take lim) ((lim : Int) - 1) = pgLast (ps.take lim) := by unfold rd pgLast; rw [htl]; congr 1; omega
    rw [hrd] at hcell
    rw [htl] at hv
    subst hA
    rw [hd, hv]
    rw [hv] at hR
    have HR := Lib.hid hR
    have Hx := Lib.hid hrd; have Hy := Lib.hid htl
    clear hR hC hrd htl hv hd
    have hcell' : w3.cell? (ad.add (lim - 1)) = some (.int .i64 (pgLast (ps.take lim))) := by rw [← hcell]; congr 2; omega
    clear hcell
    obtain ⟨z, hz⟩ : ∃ z, z = pgLast (ps.take lim) := ⟨_, rfl⟩
    rw [← hz] at hcell' hla
    have HZ := Lib.hid hz; clear hz
    go_wp2
    go_quiet (fail)
    go_wp2
    go_ret2
    exact ⟨_, by rw [← HZ.out]; rfl, Kd.R_drewN (Kd.R_lower HR.out hb1.size) _, pw_below_drewN (hb1.trans (hb3.mono hb1.size)) _⟩
  · rw [if_neg h2] at h
    injection h with h; injection h with h3 h4; subst h3; subst h4
    have hd : decide (lim ≤ ps.length) = false := decide_eq_false h2
    go_enter Tryd.func12, Tryd.ntmps12
    go_wp2_with fail
    refine (Hclip.out _ hr0).mono ?_
    rintro e w1 ⟨rfl, hb1⟩
    go_wp2_with fail
    refine (callsIn_wide.1 (up_in 1 A0 l0.length c0 (a : Int) w1)).mono ?_
    rintro e w2 ⟨rfl, rfl⟩
    go_wp2_with fail
    refine (Hsome.out _ (Kd.C_below hr0 hb1)).mono ?_
    rintro e w3 ⟨v, rfl, hR, hb3⟩
    rw [hd]
    rw [List.take_of_length_le (by omega)] at hR
    have HR := Lib.hid hR
    clear hR hd
    go_wp2
    go_ret2
    exact ⟨_, rfl, Kd.R_lower HR.out hb1.size, hb1.trans (hb3.mono hb1.size)⟩

set_option maxRecDepth 100000 in
set_option maxHeartbeats 4000000 in
theorem page_Back.calls (A0 : Option Addr) (c0 : Nat) (l0 : List Bool) (a1 : Int) (a2 : Int) (r1 : List Int) (r2 : Int) (w : World) (hr0 : Kd.C Kd.bool w A0 l0.length l0) (hc0 : l0.length ≤ c0) (h : page_Back.f l0 a1 a2 = some (r1, r2)) :
    Calls Tryd.prog 13 #[.slice A0 l0.length c0, .int .i64 a1, .int .i64 a2] w fun e w' => ∃ v0_ : Value, e = .returned (.tuple #[v0_, .int .i64 r2]) ∧ Kd.R (Kd.int .i64) 3 w' w.heap.size (fun _ => True) v0_ r1 ∧ Below w.heap.size w w' := by
  unfold page_Back.f at h
  by_cases hm : 1000000000000 < l0.length
  · rw [if_pos hm] at h; cases h
  rw [if_neg hm] at h
  have hcl := pgAt_cast l0 a1
  have hle := pgAt_le l0 a1
  have hclip := fun W hr => page_clip.calls A0 c0 l0 a1 (mn (mx 0 a1) (l0.length : Int)) W hr hc0 rfl
  rw [← hcl] at hclip
  clear hcl
  generalize pgAt l0 a1 = a at *
  have Hclip := Lib.hid hclip; clear hclip
  by_cases h1 : a2 < 1
  · rw [if_pos h1] at h
    injection h with h; injection h with h2 h3; subst h2; subst h3
    go_enter Tryd.func13, Tryd.ntmps13
    go_wp2_with fail
    refine (Hclip.out _ hr0).mono ?_
    rintro e w1 ⟨rfl, hb1⟩
    go_wp2
    go_ret2
    exact ⟨_, rfl, Kd.R_nil _ _ _ _ _, hb1⟩
  rw [if_neg h1] at h
  obtain ⟨lim, rfl⟩ : ∃ n : Nat, a2 = n := ⟨a2.toNat, by omega⟩
  rw [Int.toNat_natCast] at h
  have hlen := pgWalk_len l0 (a - 1 - ·) a
  have hbd := pgWalk_bound (l := l0) (idx := (a - 1 - ·)) (n := a) (B := l0.length) (fun j hj => by show a - 1 - j < _; omega)
  have hsome := fun W hr => some_down A0 c0 l0 a lim hle (by omega) (by omega) W hr
  generalize pgWalk l0 (a - 1 - ·) a = ps at *
  have Hsome := Lib.hid hsome; clear hsome
  by_cases h2 : lim ≤ ps.length
  · rw [if_pos h2] at h
    injection h with h; injection h with h3 h4; subst h3; subst h4
    have hd : decide (lim ≤ ps.length) = true := decide_eq_true h2
    have hla := pgLast_take hbd (by omega : 1 ≤ lim) h2
    go_enter Tryd.func13, Tryd.ntmps13
    go_wp2_with fail
    refine (Hclip.out _ hr0).mono ?_
    rintro e w1 ⟨rfl, hb1⟩
    go_wp2_with fail
    refine (callsIn_wide.1 (down_in 1 A0 l0.length c0 (a : Int) w1)).mono ?_
    rintro e w2 ⟨rfl, rfl⟩
    go_wp2_with fail
    refine (Hsome.out _ (Kd.C_below hr0 hb1)).mono ?_
    rintro e w3 ⟨v, rfl, hR, hb3⟩
    obtain ⟨A, c, hv, hlc, hC⟩ := Kd.R_reads hR
    have htl : (ps.take lim).length = lim := by simp; omega
    obtain ⟨ad, hA, hcell⟩ := Kd.at_int hC ((lim : Int) - 1) (by omega) (by rw [htl]; omega)
    have hrd : rd (ps.take lim) ((lim : Int) - 1) = pgLast (ps.take lim) := by unfold rd pgLast; rw [htl]; congr 1; omega
    rw [hrd] at hcell
    rw [htl] at hv
    subst hA
    rw [hd, hv]
    rw [hv] at hR
    have HR := Lib.hid hR
    have Hx := Lib.hid hrd; have Hy := Lib.hid htl
    clear hR hC hrd htl hv hd
    have hcell' : w3.cell? (ad.add (lim - 1)) = some (.int .i64 (pgLast (ps.take lim))) := by rw [← hcell]; congr 2; omega
    clear hcell
    obtain ⟨z, hz⟩ : ∃ z, z = pgLast (ps.take lim) := ⟨_, rfl⟩
    rw [← hz] at hcell' hla
    have HZ := Lib.hid hz; clear hz
    go_wp2
    go_quiet (fail)
    go_wp2
    go_ret2
    exact ⟨_, by rw [← HZ.out]; rfl, Kd.R_drewN (Kd.R_lower HR.out hb1.size) _, pw_below_drewN (hb1.trans (hb3.mono hb1.size)) _⟩
  · rw [if_neg h2] at h
    injection h with h; injection h with h3 h4; subst h3; subst h4
    have hd : decide (lim ≤ ps.length) = false := decide_eq_false h2
    go_enter Tryd.func13, Tryd.ntmps13
    go_wp2_with fail
    refine (Hclip.out _ hr0).mono ?_
    rintro e w1 ⟨rfl, hb1⟩
    go_wp2_with fail
    refine (callsIn_wide.1 (down_in 1 A0 l0.length c0 (a : Int) w1)).mono ?_
    rintro e w2 ⟨rfl, rfl⟩
    go_wp2_with fail
    refine (Hsome.out _ (Kd.C_below hr0 hb1)).mono ?_
    rintro e w3 ⟨v, rfl, hR, hb3⟩
    rw [hd]
    rw [List.take_of_length_le (by omega)] at hR
    have HR := Lib.hid hR
    clear hR hd
    go_wp2
    go_ret2
    exact ⟨_, rfl, Kd.R_lower HR.out hb1.size, hb1.trans (hb3.mono hb1.size)⟩

end Go.Proofs.YtgpfdggdgeplfaaDoor.Q
