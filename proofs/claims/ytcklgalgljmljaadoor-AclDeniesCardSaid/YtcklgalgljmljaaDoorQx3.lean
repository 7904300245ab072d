/- Qx3: a text of this claim's proof, as printed or written, without what the claim does not use. -/
import Derived.Test.YtcklgalgljmljaaDoorQx0
import Derived.Test.YtcklgalgljmljaaDoorQx2
namespace Go.Proofs.YtcklgalgljmljaaDoor.Q
open Go.RowKit Go.Proofs.YtcklgalgljmljaaDoorW.PrintWords Go.Proofs.YtcklgalgljmljaaDoorW.PrintLast Go.Proofs.YtcklgalgljmljaaDoorW.PrintMore
attribute [local go_sem] max2_int min2_int max_two min_two max_three min_three max_four min_four
set_option linter.unusedVariables false
set_option linter.unusedSimpArgs false
mutual
def agoralaw05_Few.j0 : Nat → Bool → ByteArray → ByteArray → ByteArray → Bool → ByteArray → Int → Int → ByteArray → List ByteArray → List (S25) → List ByteArray → List ByteArray → Int → Int → ByteArray → List (S48) → Option (Bool)
  | 0, _, _, _, _, _, _, _, _, _, _, _, _, _, _, _, _, _ => none
  | k + 1, x43, x106000, x106001, x106002, x106003, x106004, x106005, x106006, x106007, x106008, x106009, x106010, x106011, x106012, x106013, x106014, x106015 => if x43 = true then (some false) else (agoralaw05_Few.l0 k 0 x106000 x106001 x106002 x106003 x106004 x106005 x106006 x106007 x106008 x106009 x106010 x106011 x106012 x106013 x106014 x106015)
def agoralaw05_Few.l0 : Nat → Int → ByteArray → ByteArray → ByteArray → Bool → ByteArray → Int → Int → ByteArray → List ByteArray → List (S25) → List ByteArray → List ByteArray → Int → Int → ByteArray → List (S48) → Option (Bool)
  | 0, _, _, _, _, _, _, _, _, _, _, _, _, _, _, _, _, _ => none
  | k + 1, x3, x106000, x106001, x106002, x106003, x106004, x106005, x106006, x106007, x106008, x106009, x106010, x106011, x106012, x106013, x106014, x106015 => if x3 < (x106010.length : Int) then (if 0 ≤ x3 then (if ((rdOf ByteArray.empty x106010 x3).size : Int) > 100 then (some false) else (agoralaw05_Few.l0 k (wrap64 (x3 + 1)) x106000 x106001 x106002 x106003 x106004 x106005 x106006 x106007 x106008 x106009 x106010 x106011 x106012 x106013 x106014 x106015)) else (none)) else (agoralaw05_Few.l1 k 0 x106000 x106001 x106002 x106003 x106004 x106005 x106006 x106007 x106008 x106009 x106010 x106011 x106012 x106013 x106014 x106015)
def agoralaw05_Few.l1 : Nat → Int → ByteArray → ByteArray → ByteArray → Bool → ByteArray → Int → Int → ByteArray → List ByteArray → List (S25) → List ByteArray → List ByteArray → Int → Int → ByteArray → List (S48) → Option (Bool)
  | 0, _, _, _, _, _, _, _, _, _, _, _, _, _, _, _, _, _ => none
  | k + 1, x4, x106000, x106001, x106002, x106003, x106004, x106005, x106006, x106007, x106008, x106009, x106010, x106011, x106012, x106013, x106014, x106015 => if x4 < (x106011.length : Int) then (if 0 ≤ x4 then (if ((rdOf ByteArray.empty x106011 x4).size : Int) > 100 then (some false) else (agoralaw05_Few.l1 k (wrap64 (x4 + 1)) x106000 x106001 x106002 x106003 x106004 x106005 x106006 x106007 x106008 x106009 x106010 x106011 x106012 x106013 x106014 x106015)) else (none)) else (agoralaw05_Few.l2 k 0 x106000 x106001 x106002 x106003 x106004 x106005 x106006 x106007 x106008 x106009 x106010 x106011 x106012 x106013 x106014 x106015)
def agoralaw05_Few.l2 : Nat → Int → ByteArray → ByteArray → ByteArray → Bool → ByteArray → Int → Int → ByteArray → List ByteArray → List (S25) → List ByteArray → List ByteArray → Int → Int → ByteArray → List (S48) → Option (Bool)
  | 0, _, _, _, _, _, _, _, _, _, _, _, _, _, _, _, _, _ => none
  | k + 1, x5, x106000, x106001, x106002, x106003, x106004, x106005, x106006, x106007, x106008, x106009, x106010, x106011, x106012, x106013, x106014, x106015 => if x5 < (x106015.length : Int) then (if 0 ≤ x5 then (if (wrap64 ((((rd_T48 x106015 x5).f0).size : Int) + (((rd_T48 x106015 x5).f1).size : Int))) > 200 then (some false) else (agoralaw05_Few.l2 k (wrap64 (x5 + 1)) x106000 x106001 x106002 x106003 x106004 x106005 x106006 x106007 x106008 x106009 x106010 x106011 x106012 x106013 x106014 x106015)) else (none)) else ((agoralaw05_left.f k x106005 x106006 x106007 x106008 x106009 300 20).bind fun t110 => (some (decide (t110 ≥ 0))))
end
def agoralaw05_Few.f (k : Nat) (a0_0 : ByteArray) (a0_1 : ByteArray) (a0_2 : ByteArray) (a0_3 : Bool) (a0_4 : ByteArray) (a0_5 : Int) (a0_6 : Int) (a0_7 : ByteArray) (l0_8 : List ByteArray) (l0_9 : List (S25)) (l0_10 : List ByteArray) (l0_11 : List ByteArray) (a0_12 : Int) (a0_13 : Int) (a0_14 : ByteArray) (l0_15 : List (S48)) : Option (Bool) := if (wrap64 ((wrap64 ((wrap64 ((wrap64 ((a0_0.size : Int) + (a0_1.size : Int))) + (a0_2.size : Int))) + (a0_4.size : Int))) + (a0_14.size : Int))) > 2000 then (agoralaw05_Few.j0 k true a0_0 a0_1 a0_2 a0_3 a0_4 a0_5 a0_6 a0_7 l0_8 l0_9 l0_10 l0_11 a0_12 a0_13 a0_14 l0_15) else (if (l0_10.length : Int) > 30 then (agoralaw05_Few.j0 k true a0_0 a0_1 a0_2 a0_3 a0_4 a0_5 a0_6 a0_7 l0_8 l0_9 l0_10 l0_11 a0_12 a0_13 a0_14 l0_15) else (if (l0_11.length : Int) > 30 then (agoralaw05_Few.j0 k true a0_0 a0_1 a0_2 a0_3 a0_4 a0_5 a0_6 a0_7 l0_8 l0_9 l0_10 l0_11 a0_12 a0_13 a0_14 l0_15) else (agoralaw05_Few.j0 k (decide ((l0_15.length : Int) > 30)) a0_0 a0_1 a0_2 a0_3 a0_4 a0_5 a0_6 a0_7 l0_8 l0_9 l0_10 l0_11 a0_12 a0_13 a0_14 l0_15)))
set_option maxHeartbeats 8000000 in
set_option maxRecDepth 100000 in
theorem agoralaw05_Few.calls (k : Nat) (a0_0 : ByteArray) (a0_1 : ByteArray) (a0_2 : ByteArray) (a0_3 : Bool) (a0_4 : ByteArray) (a0_5 : Int) (a0_6 : Int) (a0_7 : ByteArray) (A0_8 : Option Addr) (c0_8 : Nat) (l0_8 : List ByteArray) (A0_9 : Option Addr) (c0_9 : Nat) (l0_9 : List (S25)) (A0_10 : Option Addr) (c0_10 : Nat) (l0_10 : List ByteArray) (A0_11 : Option Addr) (c0_11 : Nat) (l0_11 : List ByteArray) (a0_12 : Int) (a0_13 : Int) (a0_14 : ByteArray) (A0_15 : Option Addr) (c0_15 : Nat) (l0_15 : List (S48)) (r : Bool) (w : World) (hr0_8 : Kd.C Kd.string w A0_8 l0_8.length l0_8) (hc0_8 : l0_8.length ≤ c0_8) (hr0_9 : Kd.C k25 w A0_9 l0_9.length l0_9) (hc0_9 : l0_9.length ≤ c0_9) (hr0_10 : Kd.C Kd.string w A0_10 l0_10.length l0_10) (hc0_10 : l0_10.length ≤ c0_10) (hr0_11 : Kd.C Kd.string w A0_11 l0_11.length l0_11) (hc0_11 : l0_11.length ≤ c0_11) (hr0_15 : Kd.C k48 w A0_15 l0_15.length l0_15) (hc0_15 : l0_15.length ≤ c0_15) (h : agoralaw05_Few.f k a0_0 a0_1 a0_2 a0_3 a0_4 a0_5 a0_6 a0_7 l0_8 l0_9 l0_10 l0_11 a0_12 a0_13 a0_14 l0_15 = some r) :
    Calls Tryd.prog 15 #[.agg #[.string a0_0, .string a0_1, .string a0_2, .bool a0_3, .string a0_4, .int .i64 a0_5, .int .i64 a0_6, .string a0_7, .slice A0_8 l0_8.length c0_8, .slice A0_9 l0_9.length c0_9, .slice A0_10 l0_10.length c0_10, .slice A0_11 l0_11.length c0_11, .int .i64 a0_12, .int .i64 a0_13, .string a0_14, .slice A0_15 l0_15.length c0_15]] w fun e w' => e = .returned (.bool r) ∧ Below w.heap.size w w' := by
  have hu37 := Tryd.underlying37
  have hu25 := Tryd.underlying25
  have HR0_8 := Aside0.mk hr0_8
  have HC0_8 := Aside0.mk hc0_8
  clear hr0_8 hc0_8
  have HR0_9 := Aside0.mk hr0_9
  have HC0_9 := Aside0.mk hc0_9
  clear hr0_9 hc0_9
  have HR0_10 := Aside0.mk hr0_10
  have HC0_10 := Aside0.mk hc0_10
  clear hr0_10 hc0_10
  have HR0_11 := Aside0.mk hr0_11
  have HC0_11 := Aside0.mk hc0_11
  clear hr0_11 hc0_11
  have HR0_15 := Aside0.mk hr0_15
  have HC0_15 := Aside0.mk hc0_15
  clear hr0_15 hc0_15
  have HB := Aside0.mk (Below.refl w.heap.size w)
  have H : (if (wrap64 ((wrap64 ((wrap64 ((wrap64 ((a0_0.size : Int) + (a0_1.size : Int))) + (a0_2.size : Int))) + (a0_4.size : Int))) + (a0_14.size : Int))) > 2000 then (agoralaw05_Few.j0 k true a0_0 a0_1 a0_2 a0_3 a0_4 a0_5 a0_6 a0_7 l0_8 l0_9 l0_10 l0_11 a0_12 a0_13 a0_14 l0_15) else (if (l0_10.length : Int) > 30 then (agoralaw05_Few.j0 k true a0_0 a0_1 a0_2 a0_3 a0_4 a0_5 a0_6 a0_7 l0_8 l0_9 l0_10 l0_11 a0_12 a0_13 a0_14 l0_15) else (if (l0_11.length : Int) > 30 then (agoralaw05_Few.j0 k true a0_0 a0_1 a0_2 a0_3 a0_4 a0_5 a0_6 a0_7 l0_8 l0_9 l0_10 l0_11 a0_12 a0_13 a0_14 l0_15) else (agoralaw05_Few.j0 k (decide ((l0_15.length : Int) > 30)) a0_0 a0_1 a0_2 a0_3 a0_4 a0_5 a0_6 a0_7 l0_8 l0_9 l0_10 l0_11 a0_12 a0_13 a0_14 l0_15)))) = some r := h
  clear h
  have HC2 := Aside0.mk H
  clear H
  go_enter Tryd.func15, Tryd.ntmps15
  go_upto_region 1 with (first | ((with_reducible refine gate_dst (N := 1) rfl ?_); (try (refine gate_guard (by rfl) ?_; dsimp only)); refine box_event ?hg (N := 1) ?hd (cs := #[.string a0_0, .string a0_1, .string a0_2, .bool a0_3, .string a0_4, .int .i64 a0_5, .int .i64 a0_6, .string a0_7, .slice A0_8 l0_8.length c0_8, .slice A0_9 l0_9.length c0_9, .slice A0_10 l0_10.length c0_10, .slice A0_11 l0_11.length c0_11, .int .i64 a0_12, .int .i64 a0_13, .string a0_14, .slice A0_15 l0_15.length c0_15]) (t := 37) ?hr ?_; (case hd => rfl); (case hg => rfl); (case hr => first | (go_simp; done) | (go_simp; rfl)); intro gb105 hg w3 hbox hb; have n0_ := Aside0.mk (below_step (by repeat (first | (with_reducible first | exact HB.out | apply below_alloc | apply pw_below_drewN | apply below_drew1) | exact HB.out)) hb); have n1_ := Aside0.mk (hbox); have n2_ := Aside0.mk ((by rw [hg]; exact (below_size (by repeat (first | (with_reducible first | exact HB.out | apply below_alloc | apply pw_below_drewN | apply below_drew1) | exact HB.out))) : w.heap.size ≤ gb105)); have n3_ := Aside0.mk ((by rw [hg]; exact (below_size (by repeat (first | (with_reducible first | exact HB.out | apply below_alloc | apply pw_below_drewN | apply below_drew1) | exact HB.out))) : w.heap.size ≤ gb105)); clear HB; have HB := n0_; have BK105 := n1_; have GW105 := n2_; have GE105 := n3_; clear n0_ n1_ n2_ n3_; clear hb hbox hg))
  repeat (go_quiet (first | ((with_reducible refine gate_dst (N := 1) rfl ?_); (try (refine gate_guard (by rfl) ?_; dsimp only)); refine box_event ?hg (N := 1) ?hd (cs := #[.string a0_0, .string a0_1, .string a0_2, .bool a0_3, .string a0_4, .int .i64 a0_5, .int .i64 a0_6, .string a0_7, .slice A0_8 l0_8.length c0_8, .slice A0_9 l0_9.length c0_9, .slice A0_10 l0_10.length c0_10, .slice A0_11 l0_11.length c0_11, .int .i64 a0_12, .int .i64 a0_13, .string a0_14, .slice A0_15 l0_15.length c0_15]) (t := 37) ?hr ?_; (case hd => rfl); (case hg => rfl); (case hr => first | (go_simp; done) | (go_simp; rfl)); intro gb105 hg w3 hbox hb; have n0_ := Aside0.mk (below_step (by repeat (first | (with_reducible first | exact HB.out | apply below_alloc | apply pw_below_drewN | apply below_drew1) | exact HB.out)) hb); have n1_ := Aside0.mk (hbox); have n2_ := Aside0.mk ((by rw [hg]; exact (below_size (by repeat (first | (with_reducible first | exact HB.out | apply below_alloc | apply pw_below_drewN | apply below_drew1) | exact HB.out))) : w.heap.size ≤ gb105)); have n3_ := Aside0.mk ((by rw [hg]; exact (below_size (by repeat (first | (with_reducible first | exact HB.out | apply below_alloc | apply pw_below_drewN | apply below_drew1) | exact HB.out))) : w.heap.size ≤ gb105)); clear HB; have HB := n0_; have BK105 := n1_; have GW105 := n2_; have GE105 := n3_; clear n0_ n1_ n2_ n3_; clear hb hbox hg)); go_upto_region 1 with (first | ((with_reducible refine gate_dst (N := 1) rfl ?_); (try (refine gate_guard (by rfl) ?_; dsimp only)); refine box_event ?hg (N := 1) ?hd (cs := #[.string a0_0, .string a0_1, .string a0_2, .bool a0_3, .string a0_4, .int .i64 a0_5, .int .i64 a0_6, .string a0_7, .slice A0_8 l0_8.length c0_8, .slice A0_9 l0_9.length c0_9, .slice A0_10 l0_10.length c0_10, .slice A0_11 l0_11.length c0_11, .int .i64 a0_12, .int .i64 a0_13, .string a0_14, .slice A0_15 l0_15.length c0_15]) (t := 37) ?hr ?_; (case hd => rfl); (case hg => rfl); (case hr => first | (go_simp; done) | (go_simp; rfl)); intro gb105 hg w3 hbox hb; have n0_ := Aside0.mk (below_step (by repeat (first | (with_reducible first | exact HB.out | apply below_alloc | apply pw_below_drewN | apply below_drew1) | exact HB.out)) hb); have n1_ := Aside0.mk (hbox); have n2_ := Aside0.mk ((by rw [hg]; exact (below_size (by repeat (first | (with_reducible first | exact HB.out | apply below_alloc | apply pw_below_drewN | apply below_drew1) | exact HB.out))) : w.heap.size ≤ gb105)); have n3_ := Aside0.mk ((by rw [hg]; exact (below_size (by repeat (first | (with_reducible first | exact HB.out | apply below_alloc | apply pw_below_drewN | apply below_drew1) | exact HB.out))) : w.heap.size ≤ gb105)); clear HB; have HB := n0_; have BK105 := n1_; have GW105 := n2_; have GE105 := n3_; clear n0_ n1_ n2_ n3_; clear hb hbox hg)))
  (try simp only [Act.put, List.setIfInBounds_toArray, List.set_cons_zero, List.set_cons_succ])
  go_cut [43] (fun v43 wc => ∃ (kq : Nat) (x43_1 : Bool), v43 = .bool x43_1 ∧ Aside0 (agoralaw05_Few.j0 kq x43_1 a0_0 a0_1 a0_2 a0_3 a0_4 a0_5 a0_6 a0_7 l0_8 l0_9 l0_10 l0_11 a0_12 a0_13 a0_14 l0_15 = some r) ∧ Aside0 (kq ≤ k) ∧ Aside0 (wc.heap[gb105]? = some (.cells #[.string a0_0, .string a0_1, .string a0_2, .bool a0_3, .string a0_4, .int .i64 a0_5, .int .i64 a0_6, .string a0_7, (.slice A0_8 l0_8.length c0_8), (.slice A0_9 l0_9.length c0_9), (.slice A0_10 l0_10.length c0_10), (.slice A0_11 l0_11.length c0_11), .int .i64 a0_12, .int .i64 a0_13, .string a0_14, (.slice A0_15 l0_15.length c0_15)] 37 (0, 0))) ∧ Aside0 (Below w.heap.size w wc))
  case first =>
    have H := HC2.out
    clear HC2
    by_cases c4 : (wrap64 ((wrap64 ((wrap64 ((wrap64 ((a0_0.size : Int) + (a0_1.size : Int))) + (a0_2.size : Int))) + (a0_4.size : Int))) + (a0_14.size : Int))) > 2000
    · rw [if_pos c4] at H
      have c4b0 : decide (2000 < (wrap64 ((wrap64 ((wrap64 ((wrap64 ((a0_0.size : Int) + (a0_1.size : Int))) + (a0_2.size : Int))) + (a0_4.size : Int))) + (a0_14.size : Int)))) = true := decide_eq_true c4
      clear c4
      (first | rw [c4b0] | (simp only [i64_w, i32_w]; rw [c4b0]) | skip)
      have H' := Aside0.mk H
      clear H
      have hcz5_0 : w3.cell? ⟨gb105, 0, none⟩ = some (.string a0_0) := (blk_cell BK105.out 0).trans rfl
      have hcz5_1 : w3.cell? ⟨gb105, 1, none⟩ = some (.string a0_1) := (blk_cell BK105.out 1).trans rfl
      have hcz5_2 : w3.cell? ⟨gb105, 2, none⟩ = some (.string a0_2) := (blk_cell BK105.out 2).trans rfl
      have hcz5_3 : w3.cell? ⟨gb105, 3, none⟩ = some (.bool a0_3) := (blk_cell BK105.out 3).trans rfl
      have hcz5_4 : w3.cell? ⟨gb105, 4, none⟩ = some (.string a0_4) := (blk_cell BK105.out 4).trans rfl
      have hcz5_5 : w3.cell? ⟨gb105, 5, none⟩ = some (.int .i64 a0_5) := (blk_cell BK105.out 5).trans rfl
      have hcz5_6 : w3.cell? ⟨gb105, 6, none⟩ = some (.int .i64 a0_6) := (blk_cell BK105.out 6).trans rfl
      have hcz5_7 : w3.cell? ⟨gb105, 7, none⟩ = some (.string a0_7) := (blk_cell BK105.out 7).trans rfl
      have hcz5_8 : w3.cell? ⟨gb105, 8, none⟩ = some (.slice A0_8 l0_8.length c0_8) := (blk_cell BK105.out 8).trans rfl
      have hcz5_9 : w3.cell? ⟨gb105, 9, none⟩ = some (.slice A0_9 l0_9.length c0_9) := (blk_cell BK105.out 9).trans rfl
      have hcz5_10 : w3.cell? ⟨gb105, 10, none⟩ = some (.slice A0_10 l0_10.length c0_10) := (blk_cell BK105.out 10).trans rfl
      have hcz5_11 : w3.cell? ⟨gb105, 11, none⟩ = some (.slice A0_11 l0_11.length c0_11) := (blk_cell BK105.out 11).trans rfl
      have hcz5_12 : w3.cell? ⟨gb105, 12, none⟩ = some (.int .i64 a0_12) := (blk_cell BK105.out 12).trans rfl
      have hcz5_13 : w3.cell? ⟨gb105, 13, none⟩ = some (.int .i64 a0_13) := (blk_cell BK105.out 13).trans rfl
      have hcz5_14 : w3.cell? ⟨gb105, 14, none⟩ = some (.string a0_14) := (blk_cell BK105.out 14).trans rfl
      have hcz5_15 : w3.cell? ⟨gb105, 15, none⟩ = some (.slice A0_15 l0_15.length c0_15) := (blk_cell BK105.out 15).trans rfl
      have hfz5_0 := blk_frozen BK105.out 0
      have hfz5_1 := blk_frozen BK105.out 1
      have hfz5_2 := blk_frozen BK105.out 2
      have hfz5_3 := blk_frozen BK105.out 3
      have hfz5_4 := blk_frozen BK105.out 4
      have hfz5_5 := blk_frozen BK105.out 5
      have hfz5_6 := blk_frozen BK105.out 6
      have hfz5_7 := blk_frozen BK105.out 7
      have hfz5_8 := blk_frozen BK105.out 8
      have hfz5_9 := blk_frozen BK105.out 9
      have hfz5_10 := blk_frozen BK105.out 10
      have hfz5_11 := blk_frozen BK105.out 11
      have hfz5_12 := blk_frozen BK105.out 12
      have hfz5_13 := blk_frozen BK105.out 13
      have hfz5_14 := blk_frozen BK105.out 14
      have hfz5_15 := blk_frozen BK105.out 15
      go_wp2
      repeat (go_quiet (fail); try go_wp2)
      go_meet
      case rel => exact ⟨_, (true), (by first | rfl | (simp; done) | (simp [*]; done)), H', ⟨by first | omega | exact Nat.le_refl _⟩, ⟨by (with_reducible repeat (first | refine blk_drewN ?_ _ | refine blk_drew ?_ | refine blk_alloc ?_ _)); exact BK105.out⟩, ⟨by repeat (first | (with_reducible first | exact HB.out | apply below_alloc | apply pw_below_drewN | apply below_drew1 | refine below_set ?_ GE105.out) | exact HB.out)⟩⟩
    · rw [if_neg c4] at H
      have c4b0 : decide (2000 < (wrap64 ((wrap64 ((wrap64 ((wrap64 ((a0_0.size : Int) + (a0_1.size : Int))) + (a0_2.size : Int))) + (a0_4.size : Int))) + (a0_14.size : Int)))) = false := decide_eq_false c4
      clear c4
      (first | rw [c4b0] | (simp only [i64_w, i32_w]; rw [c4b0]) | skip)
      by_cases c6 : (l0_10.length : Int) > 30
      · rw [if_pos c6] at H
        have c6b0 : decide (30 < (l0_10.length : Int)) = true := decide_eq_true c6
        have c6b1 : decide (30 < l0_10.length) = true := decide_eq_true (by omega)
        clear c6
        have H' := Aside0.mk H
        clear H
        have hcz7_0 : w3.cell? ⟨gb105, 0, none⟩ = some (.string a0_0) := (blk_cell BK105.out 0).trans rfl
        have hcz7_1 : w3.cell? ⟨gb105, 1, none⟩ = some (.string a0_1) := (blk_cell BK105.out 1).trans rfl
        have hcz7_2 : w3.cell? ⟨gb105, 2, none⟩ = some (.string a0_2) := (blk_cell BK105.out 2).trans rfl
        have hcz7_3 : w3.cell? ⟨gb105, 3, none⟩ = some (.bool a0_3) := (blk_cell BK105.out 3).trans rfl
        have hcz7_4 : w3.cell? ⟨gb105, 4, none⟩ = some (.string a0_4) := (blk_cell BK105.out 4).trans rfl
        have hcz7_5 : w3.cell? ⟨gb105, 5, none⟩ = some (.int .i64 a0_5) := (blk_cell BK105.out 5).trans rfl
        have hcz7_6 : w3.cell? ⟨gb105, 6, none⟩ = some (.int .i64 a0_6) := (blk_cell BK105.out 6).trans rfl
        have hcz7_7 : w3.cell? ⟨gb105, 7, none⟩ = some (.string a0_7) := (blk_cell BK105.out 7).trans rfl
        have hcz7_8 : w3.cell? ⟨gb105, 8, none⟩ = some (.slice A0_8 l0_8.length c0_8) := (blk_cell BK105.out 8).trans rfl
        have hcz7_9 : w3.cell? ⟨gb105, 9, none⟩ = some (.slice A0_9 l0_9.length c0_9) := (blk_cell BK105.out 9).trans rfl
        have hcz7_10 : w3.cell? ⟨gb105, 10, none⟩ = some (.slice A0_10 l0_10.length c0_10) := (blk_cell BK105.out 10).trans rfl
        have hcz7_11 : w3.cell? ⟨gb105, 11, none⟩ = some (.slice A0_11 l0_11.length c0_11) := (blk_cell BK105.out 11).trans rfl
        have hcz7_12 : w3.cell? ⟨gb105, 12, none⟩ = some (.int .i64 a0_12) := (blk_cell BK105.out 12).trans rfl
        have hcz7_13 : w3.cell? ⟨gb105, 13, none⟩ = some (.int .i64 a0_13) := (blk_cell BK105.out 13).trans rfl
        have hcz7_14 : w3.cell? ⟨gb105, 14, none⟩ = some (.string a0_14) := (blk_cell BK105.out 14).trans rfl
        have hcz7_15 : w3.cell? ⟨gb105, 15, none⟩ = some (.slice A0_15 l0_15.length c0_15) := (blk_cell BK105.out 15).trans rfl
        have hfz7_0 := blk_frozen BK105.out 0
        have hfz7_1 := blk_frozen BK105.out 1
        have hfz7_2 := blk_frozen BK105.out 2
        have hfz7_3 := blk_frozen BK105.out 3
        have hfz7_4 := blk_frozen BK105.out 4
        have hfz7_5 := blk_frozen BK105.out 5
        have hfz7_6 := blk_frozen BK105.out 6
        have hfz7_7 := blk_frozen BK105.out 7
        have hfz7_8 := blk_frozen BK105.out 8
        have hfz7_9 := blk_frozen BK105.out 9
        have hfz7_10 := blk_frozen BK105.out 10
        have hfz7_11 := blk_frozen BK105.out 11
        have hfz7_12 := blk_frozen BK105.out 12
        have hfz7_13 := blk_frozen BK105.out 13
        have hfz7_14 := blk_frozen BK105.out 14
        have hfz7_15 := blk_frozen BK105.out 15
        go_wp2
        repeat (go_quiet (fail); try go_wp2)
        go_meet
        case rel => exact ⟨_, (true), (by first | rfl | (simp; done) | (simp [*]; done)), H', ⟨by first | omega | exact Nat.le_refl _⟩, ⟨by (with_reducible repeat (first | refine blk_drewN ?_ _ | refine blk_drew ?_ | refine blk_alloc ?_ _)); exact BK105.out⟩, ⟨by repeat (first | (with_reducible first | exact HB.out | apply below_alloc | apply pw_below_drewN | apply below_drew1 | refine below_set ?_ GE105.out) | exact HB.out)⟩⟩
      · rw [if_neg c6] at H
        have c6b0 : decide (30 < (l0_10.length : Int)) = false := decide_eq_false c6
        have c6b1 : decide (30 < l0_10.length) = false := decide_eq_false (by omega)
        clear c6
        by_cases c8 : (l0_11.length : Int) > 30
        · rw [if_pos c8] at H
          have c8b0 : decide (30 < (l0_11.length : Int)) = true := decide_eq_true c8
          have c8b1 : decide (30 < l0_11.length) = true := decide_eq_true (by omega)
          clear c8
          have H' := Aside0.mk H
          clear H
          have hcz9_0 : w3.cell? ⟨gb105, 0, none⟩ = some (.string a0_0) := (blk_cell BK105.out 0).trans rfl
          have hcz9_1 : w3.cell? ⟨gb105, 1, none⟩ = some (.string a0_1) := (blk_cell BK105.out 1).trans rfl
          have hcz9_2 : w3.cell? ⟨gb105, 2, none⟩ = some (.string a0_2) := (blk_cell BK105.out 2).trans rfl
          have hcz9_3 : w3.cell? ⟨gb105, 3, none⟩ = some (.bool a0_3) := (blk_cell BK105.out 3).trans rfl
          have hcz9_4 : w3.cell? ⟨gb105, 4, none⟩ = some (.string a0_4) := (blk_cell BK105.out 4).trans rfl
          have hcz9_5 : w3.cell? ⟨gb105, 5, none⟩ = some (.int .i64 a0_5) := (blk_cell BK105.out 5).trans rfl
          have hcz9_6 : w3.cell? ⟨gb105, 6, none⟩ = some (.int .i64 a0_6) := (blk_cell BK105.out 6).trans rfl
          have hcz9_7 : w3.cell? ⟨gb105, 7, none⟩ = some (.string a0_7) := (blk_cell BK105.out 7).trans rfl
          have hcz9_8 : w3.cell? ⟨gb105, 8, none⟩ = some (.slice A0_8 l0_8.length c0_8) := (blk_cell BK105.out 8).trans rfl
          have hcz9_9 : w3.cell? ⟨gb105, 9, none⟩ = some (.slice A0_9 l0_9.length c0_9) := (blk_cell BK105.out 9).trans rfl
          have hcz9_10 : w3.cell? ⟨gb105, 10, none⟩ = some (.slice A0_10 l0_10.length c0_10) := (blk_cell BK105.out 10).trans rfl
          have hcz9_11 : w3.cell? ⟨gb105, 11, none⟩ = some (.slice A0_11 l0_11.length c0_11) := (blk_cell BK105.out 11).trans rfl
          have hcz9_12 : w3.cell? ⟨gb105, 12, none⟩ = some (.int .i64 a0_12) := (blk_cell BK105.out 12).trans rfl
          have hcz9_13 : w3.cell? ⟨gb105, 13, none⟩ = some (.int .i64 a0_13) := (blk_cell BK105.out 13).trans rfl
          have hcz9_14 : w3.cell? ⟨gb105, 14, none⟩ = some (.string a0_14) := (blk_cell BK105.out 14).trans rfl
          have hcz9_15 : w3.cell? ⟨gb105, 15, none⟩ = some (.slice A0_15 l0_15.length c0_15) := (blk_cell BK105.out 15).trans rfl
          have hfz9_0 := blk_frozen BK105.out 0
          have hfz9_1 := blk_frozen BK105.out 1
          have hfz9_2 := blk_frozen BK105.out 2
          have hfz9_3 := blk_frozen BK105.out 3
          have hfz9_4 := blk_frozen BK105.out 4
          have hfz9_5 := blk_frozen BK105.out 5
          have hfz9_6 := blk_frozen BK105.out 6
          have hfz9_7 := blk_frozen BK105.out 7
          have hfz9_8 := blk_frozen BK105.out 8
          have hfz9_9 := blk_frozen BK105.out 9
          have hfz9_10 := blk_frozen BK105.out 10
          have hfz9_11 := blk_frozen BK105.out 11
          have hfz9_12 := blk_frozen BK105.out 12
          have hfz9_13 := blk_frozen BK105.out 13
          have hfz9_14 := blk_frozen BK105.out 14
          have hfz9_15 := blk_frozen BK105.out 15
          go_wp2
          repeat (go_quiet (fail); try go_wp2)
          go_meet
          case rel => exact ⟨_, (true), (by first | rfl | (simp; done) | (simp [*]; done)), H', ⟨by first | omega | exact Nat.le_refl _⟩, ⟨by (with_reducible repeat (first | refine blk_drewN ?_ _ | refine blk_drew ?_ | refine blk_alloc ?_ _)); exact BK105.out⟩, ⟨by repeat (first | (with_reducible first | exact HB.out | apply below_alloc | apply pw_below_drewN | apply below_drew1 | refine below_set ?_ GE105.out) | exact HB.out)⟩⟩
        · rw [if_neg c8] at H
          have c8b0 : decide (30 < (l0_11.length : Int)) = false := decide_eq_false c8
          have c8b1 : decide (30 < l0_11.length) = false := decide_eq_false (by omega)
          clear c8
          have H' := Aside0.mk H
          clear H
          have hcz10_0 : w3.cell? ⟨gb105, 0, none⟩ = some (.string a0_0) := (blk_cell BK105.out 0).trans rfl
          have hcz10_1 : w3.cell? ⟨gb105, 1, none⟩ = some (.string a0_1) := (blk_cell BK105.out 1).trans rfl
          have hcz10_2 : w3.cell? ⟨gb105, 2, none⟩ = some (.string a0_2) := (blk_cell BK105.out 2).trans rfl
          have hcz10_3 : w3.cell? ⟨gb105, 3, none⟩ = some (.bool a0_3) := (blk_cell BK105.out 3).trans rfl
          have hcz10_4 : w3.cell? ⟨gb105, 4, none⟩ = some (.string a0_4) := (blk_cell BK105.out 4).trans rfl
          have hcz10_5 : w3.cell? ⟨gb105, 5, none⟩ = some (.int .i64 a0_5) := (blk_cell BK105.out 5).trans rfl
          have hcz10_6 : w3.cell? ⟨gb105, 6, none⟩ = some (.int .i64 a0_6) := (blk_cell BK105.out 6).trans rfl
          have hcz10_7 : w3.cell? ⟨gb105, 7, none⟩ = some (.string a0_7) := (blk_cell BK105.out 7).trans rfl
          have hcz10_8 : w3.cell? ⟨gb105, 8, none⟩ = some (.slice A0_8 l0_8.length c0_8) := (blk_cell BK105.out 8).trans rfl
          have hcz10_9 : w3.cell? ⟨gb105, 9, none⟩ = some (.slice A0_9 l0_9.length c0_9) := (blk_cell BK105.out 9).trans rfl
          have hcz10_10 : w3.cell? ⟨gb105, 10, none⟩ = some (.slice A0_10 l0_10.length c0_10) := (blk_cell BK105.out 10).trans rfl
          have hcz10_11 : w3.cell? ⟨gb105, 11, none⟩ = some (.slice A0_11 l0_11.length c0_11) := (blk_cell BK105.out 11).trans rfl
          have hcz10_12 : w3.cell? ⟨gb105, 12, none⟩ = some (.int .i64 a0_12) := (blk_cell BK105.out 12).trans rfl
          have hcz10_13 : w3.cell? ⟨gb105, 13, none⟩ = some (.int .i64 a0_13) := (blk_cell BK105.out 13).trans rfl
          have hcz10_14 : w3.cell? ⟨gb105, 14, none⟩ = some (.string a0_14) := (blk_cell BK105.out 14).trans rfl
          have hcz10_15 : w3.cell? ⟨gb105, 15, none⟩ = some (.slice A0_15 l0_15.length c0_15) := (blk_cell BK105.out 15).trans rfl
          have hfz10_0 := blk_frozen BK105.out 0
          have hfz10_1 := blk_frozen BK105.out 1
          have hfz10_2 := blk_frozen BK105.out 2
          have hfz10_3 := blk_frozen BK105.out 3
          have hfz10_4 := blk_frozen BK105.out 4
          have hfz10_5 := blk_frozen BK105.out 5
          have hfz10_6 := blk_frozen BK105.out 6
          have hfz10_7 := blk_frozen BK105.out 7
          have hfz10_8 := blk_frozen BK105.out 8
          have hfz10_9 := blk_frozen BK105.out 9
          have hfz10_10 := blk_frozen BK105.out 10
          have hfz10_11 := blk_frozen BK105.out 11
          have hfz10_12 := blk_frozen BK105.out 12
          have hfz10_13 := blk_frozen BK105.out 13
          have hfz10_14 := blk_frozen BK105.out 14
          have hfz10_15 := blk_frozen BK105.out 15
          go_wp2
          repeat (go_quiet (fail); try go_wp2)
          go_meet
          case rel => exact ⟨_, (decide ((l0_15.length : Int) > 30)), (by first | rfl | (simp; done) | (simp [*]; done)), H', ⟨by first | omega | exact Nat.le_refl _⟩, ⟨by (with_reducible repeat (first | refine blk_drewN ?_ _ | refine blk_drew ?_ | refine blk_alloc ?_ _)); exact BK105.out⟩, ⟨by repeat (first | (with_reducible first | exact HB.out | apply below_alloc | apply pw_below_drewN | apply below_drew1 | refine below_set ?_ GE105.out) | exact HB.out)⟩⟩
  case rest =>
    clear HC2
    try clear c1
    try clear p2
    try clear c4
    try clear c4b0
    try clear c6
    try clear c6b0
    try clear c6b1
    try clear p6
    try clear c8
    try clear c8b0
    try clear c8b1
    try clear hcz10_0
    try clear hcz10_1
    try clear hcz10_10
    try clear hcz10_11
    try clear hcz10_12
    try clear hcz10_13
    try clear hcz10_14
    try clear hcz10_15
    try clear hcz10_2
    try clear hcz10_3
    try clear hcz10_4
    try clear hcz10_5
    try clear hcz10_6
    try clear hcz10_7
    try clear hcz10_8
    try clear hcz10_9
    try clear hcz5_0
    try clear hcz5_1
    try clear hcz5_10
    try clear hcz5_11
    try clear hcz5_12
    try clear hcz5_13
    try clear hcz5_14
    try clear hcz5_15
    try clear hcz5_2
    try clear hcz5_3
    try clear hcz5_4
    try clear hcz5_5
    try clear hcz5_6
    try clear hcz5_7
    try clear hcz5_8
    try clear hcz5_9
    try clear hcz7_0
    try clear hcz7_1
    try clear hcz7_10
    try clear hcz7_11
    try clear hcz7_12
    try clear hcz7_13
    try clear hcz7_14
    try clear hcz7_15
    try clear hcz7_2
    try clear hcz7_3
    try clear hcz7_4
    try clear hcz7_5
    try clear hcz7_6
    try clear hcz7_7
    try clear hcz7_8
    try clear hcz7_9
    try clear hcz9_0
    try clear hcz9_1
    try clear hcz9_10
    try clear hcz9_11
    try clear hcz9_12
    try clear hcz9_13
    try clear hcz9_14
    try clear hcz9_15
    try clear hcz9_2
    try clear hcz9_3
    try clear hcz9_4
    try clear hcz9_5
    try clear hcz9_6
    try clear hcz9_7
    try clear hcz9_8
    try clear hcz9_9
    try clear hfz10_0
    try clear hfz10_1
    try clear hfz10_10
    try clear hfz10_11
    try clear hfz10_12
    try clear hfz10_13
    try clear hfz10_14
    try clear hfz10_15
    try clear hfz10_2
    try clear hfz10_3
    try clear hfz10_4
    try clear hfz10_5
    try clear hfz10_6
    try clear hfz10_7
    try clear hfz10_8
    try clear hfz10_9
    try clear hfz5_0
    try clear hfz5_1
    try clear hfz5_10
    try clear hfz5_11
    try clear hfz5_12
    try clear hfz5_13
    try clear hfz5_14
    try clear hfz5_15
    try clear hfz5_2
    try clear hfz5_3
    try clear hfz5_4
    try clear hfz5_5
    try clear hfz5_6
    try clear hfz5_7
    try clear hfz5_8
    try clear hfz5_9
    try clear hfz7_0
    try clear hfz7_1
    try clear hfz7_10
    try clear hfz7_11
    try clear hfz7_12
    try clear hfz7_13
    try clear hfz7_14
    try clear hfz7_15
    try clear hfz7_2
    try clear hfz7_3
    try clear hfz7_4
    try clear hfz7_5
    try clear hfz7_6
    try clear hfz7_7
    try clear hfz7_8
    try clear hfz7_9
    try clear hfz9_0
    try clear hfz9_1
    try clear hfz9_10
    try clear hfz9_11
    try clear hfz9_12
    try clear hfz9_13
    try clear hfz9_14
    try clear hfz9_15
    try clear hfz9_2
    try clear hfz9_3
    try clear hfz9_4
    try clear hfz9_5
    try clear hfz9_6
    try clear hfz9_7
    try clear hfz9_8
    try clear hfz9_9
    obtain ⟨kq, x43_1, rfl, HA, HJ1, BK105, HB⟩ := hcut
    cases kq with
    | zero => exact absurd HA.out (by simp [agoralaw05_Few.j0])
    | succ kj1 =>
      have H := HA.out
      clear HA
      simp only [agoralaw05_Few.j0] at H
      by_cases c11 : x43_1 = true
      · subst c11
        have H1 : (some false) = some r := by rw [if_pos rfl] at H; exact H
        clear H
        have H := H1
        clear H1
        obtain rfl := Option.some.inj H
        go_wp2
        repeat (go_quiet (fail); try go_wp2)
        go_ret
        exact ⟨by first | rfl | (simp [errW_none, errW_some] <;> rfl) | (simp [*, errW_none, errW_some] <;> rfl), by repeat (first | (with_reducible first | exact HB.out | apply below_alloc | apply pw_below_drewN | apply below_drew1 | refine below_set ?_ GE105.out) | exact HB.out)⟩
      · replace c11 := Bool.eq_false_iff.mpr c11
        subst c11
        have H1 : (agoralaw05_Few.l0 kj1 0 a0_0 a0_1 a0_2 a0_3 a0_4 a0_5 a0_6 a0_7 l0_8 l0_9 l0_10 l0_11 a0_12 a0_13 a0_14 l0_15) = some r := by rw [if_neg (show ¬ (false = true) by decide)] at H; exact H
        clear H
        have H := H1
        clear H1
        have H' := Aside0.mk H
        clear H
        go_wp2
        repeat (go_quiet (fail); try go_wp2)
        go_loopg [3] kj1 (fun kq v3 w' => ∃ (x3_2 : Int), v3 = .int .i64 x3_2 ∧ Aside0 (agoralaw05_Few.l0 kq x3_2 a0_0 a0_1 a0_2 a0_3 a0_4 a0_5 a0_6 a0_7 l0_8 l0_9 l0_10 l0_11 a0_12 a0_13 a0_14 l0_15 = some r) ∧ Aside0 (kq ≤ kj1) ∧ Aside0 (w'.heap[gb105]? = some (.cells #[.string a0_0, .string a0_1, .string a0_2, .bool a0_3, .string a0_4, .int .i64 a0_5, .int .i64 a0_6, .string a0_7, (.slice A0_8 l0_8.length c0_8), (.slice A0_9 l0_9.length c0_9), (.slice A0_10 l0_10.length c0_10), (.slice A0_11 l0_11.length c0_11), .int .i64 a0_12, .int .i64 a0_13, .string a0_14, (.slice A0_15 l0_15.length c0_15)] 37 (0, 0))) ∧ Aside0 (Below w.heap.size w w'))
        case atStart => exact ⟨(0), (by first | rfl | (simp; done) | (simp [*]; done)), H', ⟨Nat.le_refl _⟩, ⟨by (with_reducible repeat (first | refine blk_drewN ?_ _ | refine blk_drew ?_ | refine blk_alloc ?_ _)); exact BK105.out⟩, ⟨by repeat (first | (with_reducible first | exact HB.out | apply below_alloc | apply pw_below_drewN | apply below_drew1 | refine below_set ?_ GE105.out) | exact HB.out)⟩⟩
        case round =>
          clear H'
          try clear c1
          try clear p2
          try clear c4
          try clear c4b0
          try clear c6
          try clear c6b0
          try clear c6b1
          try clear p6
          try clear c8
          try clear c8b0
          try clear c8b1
          try clear c11
          try clear hcz10_0
          try clear hcz10_1
          try clear hcz10_10
          try clear hcz10_11
          try clear hcz10_12
          try clear hcz10_13
          try clear hcz10_14
          try clear hcz10_15
          try clear hcz10_2
          try clear hcz10_3
          try clear hcz10_4
          try clear hcz10_5
          try clear hcz10_6
          try clear hcz10_7
          try clear hcz10_8
          try clear hcz10_9
          try clear hcz5_0
          try clear hcz5_1
          try clear hcz5_10
          try clear hcz5_11
          try clear hcz5_12
          try clear hcz5_13
          try clear hcz5_14
          try clear hcz5_15
          try clear hcz5_2
          try clear hcz5_3
          try clear hcz5_4
          try clear hcz5_5
          try clear hcz5_6
          try clear hcz5_7
          try clear hcz5_8
          try clear hcz5_9
          try clear hcz7_0
          try clear hcz7_1
          try clear hcz7_10
          try clear hcz7_11
          try clear hcz7_12
          try clear hcz7_13
          try clear hcz7_14
          try clear hcz7_15
          try clear hcz7_2
          try clear hcz7_3
          try clear hcz7_4
          try clear hcz7_5
          try clear hcz7_6
          try clear hcz7_7
          try clear hcz7_8
          try clear hcz7_9
          try clear hcz9_0
          try clear hcz9_1
          try clear hcz9_10
          try clear hcz9_11
          try clear hcz9_12
          try clear hcz9_13
          try clear hcz9_14
          try clear hcz9_15
          try clear hcz9_2
          try clear hcz9_3
          try clear hcz9_4
          try clear hcz9_5
          try clear hcz9_6
          try clear hcz9_7
          try clear hcz9_8
          try clear hcz9_9
          try clear hfz10_0
          try clear hfz10_1
          try clear hfz10_10
          try clear hfz10_11
          try clear hfz10_12
          try clear hfz10_13
          try clear hfz10_14
          try clear hfz10_15
          try clear hfz10_2
          try clear hfz10_3
          try clear hfz10_4
          try clear hfz10_5
          try clear hfz10_6
          try clear hfz10_7
          try clear hfz10_8
          try clear hfz10_9
          try clear hfz5_0
          try clear hfz5_1
          try clear hfz5_10
          try clear hfz5_11
          try clear hfz5_12
          try clear hfz5_13
          try clear hfz5_14
          try clear hfz5_15
          try clear hfz5_2
          try clear hfz5_3
          try clear hfz5_4
          try clear hfz5_5
          try clear hfz5_6
          try clear hfz5_7
          try clear hfz5_8
          try clear hfz5_9
          try clear hfz7_0
          try clear hfz7_1
          try clear hfz7_10
          try clear hfz7_11
          try clear hfz7_12
          try clear hfz7_13
          try clear hfz7_14
          try clear hfz7_15
          try clear hfz7_2
          try clear hfz7_3
          try clear hfz7_4
          try clear hfz7_5
          try clear hfz7_6
          try clear hfz7_7
          try clear hfz7_8
          try clear hfz7_9
          try clear hfz9_0
          try clear hfz9_1
          try clear hfz9_10
          try clear hfz9_11
          try clear hfz9_12
          try clear hfz9_13
          try clear hfz9_14
          try clear hfz9_15
          try clear hfz9_2
          try clear hfz9_3
          try clear hfz9_4
          try clear hfz9_5
          try clear hfz9_6
          try clear hfz9_7
          try clear hfz9_8
          try clear hfz9_9
          try clear p2
          try clear p6
          obtain ⟨x3_2, rfl, HA, HK2, BK105, HB⟩ := hrel
          cases gk with
          | zero => exact absurd HA.out (by simp [agoralaw05_Few.l0])
          | succ k2 =>
            have H := HA.out
            clear HA
            simp only [agoralaw05_Few.l0] at H
            by_cases c12 : x3_2 < (l0_10.length : Int)
            · rw [if_pos c12] at H
              have c12b0 : decide (x3_2 < (l0_10.length : Int)) = true := decide_eq_true c12
              clear c12
              by_cases c13 : 0 ≤ x3_2
              · rw [if_pos c13] at H
                have c13b0 : decide (0 ≤ x3_2) = true := decide_eq_true c13
                clear c13
                by_cases c14 : ((rdOf ByteArray.empty l0_10 x3_2).size : Int) > 100
                · rw [if_pos c14] at H
                  have c14b0 : decide (100 < ((rdOf ByteArray.empty l0_10 x3_2).size : Int)) = true := decide_eq_true c14
                  have c14b1 : decide (100 < (rdOf ByteArray.empty l0_10 x3_2).size) = true := decide_eq_true (by omega)
                  clear c14
                  obtain rfl := Option.some.inj H
                  have hcz15_0 : wr.cell? ⟨gb105, 0, none⟩ = some (.string a0_0) := (blk_cell BK105.out 0).trans rfl
                  have hcz15_1 : wr.cell? ⟨gb105, 1, none⟩ = some (.string a0_1) := (blk_cell BK105.out 1).trans rfl
                  have hcz15_2 : wr.cell? ⟨gb105, 2, none⟩ = some (.string a0_2) := (blk_cell BK105.out 2).trans rfl
                  have hcz15_3 : wr.cell? ⟨gb105, 3, none⟩ = some (.bool a0_3) := (blk_cell BK105.out 3).trans rfl
                  have hcz15_4 : wr.cell? ⟨gb105, 4, none⟩ = some (.string a0_4) := (blk_cell BK105.out 4).trans rfl
                  have hcz15_5 : wr.cell? ⟨gb105, 5, none⟩ = some (.int .i64 a0_5) := (blk_cell BK105.out 5).trans rfl
                  have hcz15_6 : wr.cell? ⟨gb105, 6, none⟩ = some (.int .i64 a0_6) := (blk_cell BK105.out 6).trans rfl
                  have hcz15_7 : wr.cell? ⟨gb105, 7, none⟩ = some (.string a0_7) := (blk_cell BK105.out 7).trans rfl
                  have hcz15_8 : wr.cell? ⟨gb105, 8, none⟩ = some (.slice A0_8 l0_8.length c0_8) := (blk_cell BK105.out 8).trans rfl
                  have hcz15_9 : wr.cell? ⟨gb105, 9, none⟩ = some (.slice A0_9 l0_9.length c0_9) := (blk_cell BK105.out 9).trans rfl
                  have hcz15_10 : wr.cell? ⟨gb105, 10, none⟩ = some (.slice A0_10 l0_10.length c0_10) := (blk_cell BK105.out 10).trans rfl
                  have hcz15_11 : wr.cell? ⟨gb105, 11, none⟩ = some (.slice A0_11 l0_11.length c0_11) := (blk_cell BK105.out 11).trans rfl
                  have hcz15_12 : wr.cell? ⟨gb105, 12, none⟩ = some (.int .i64 a0_12) := (blk_cell BK105.out 12).trans rfl
                  have hcz15_13 : wr.cell? ⟨gb105, 13, none⟩ = some (.int .i64 a0_13) := (blk_cell BK105.out 13).trans rfl
                  have hcz15_14 : wr.cell? ⟨gb105, 14, none⟩ = some (.string a0_14) := (blk_cell BK105.out 14).trans rfl
                  have hcz15_15 : wr.cell? ⟨gb105, 15, none⟩ = some (.slice A0_15 l0_15.length c0_15) := (blk_cell BK105.out 15).trans rfl
                  have hfz15_0 := blk_frozen BK105.out 0
                  have hfz15_1 := blk_frozen BK105.out 1
                  have hfz15_2 := blk_frozen BK105.out 2
                  have hfz15_3 := blk_frozen BK105.out 3
                  have hfz15_4 := blk_frozen BK105.out 4
                  have hfz15_5 := blk_frozen BK105.out 5
                  have hfz15_6 := blk_frozen BK105.out 6
                  have hfz15_7 := blk_frozen BK105.out 7
                  have hfz15_8 := blk_frozen BK105.out 8
                  have hfz15_9 := blk_frozen BK105.out 9
                  have hfz15_10 := blk_frozen BK105.out 10
                  have hfz15_11 := blk_frozen BK105.out 11
                  have hfz15_12 := blk_frozen BK105.out 12
                  have hfz15_13 := blk_frozen BK105.out 13
                  have hfz15_14 := blk_frozen BK105.out 14
                  have hfz15_15 := blk_frozen BK105.out 15
                  have p106 : 0 ≤ (x3_2 : Int) := of_decide_eq_true (by first | (with_reducible assumption) | assumption)
                  have q106 : x3_2 < (l0_10.length : Int) := of_decide_eq_true (by first | (with_reducible assumption) | assumption)
                  obtain ⟨ad106, e106, hx106_0⟩ := Kd.at_string HR0_10.out x3_2 p106 q106
                  cases e106
                  replace hx106_0 := (HB.out.cell (World.block_lt_of_cell? w _ hx106_0)).trans hx106_0
                  replace p106 := eq_true p106
                  replace q106 := eq_true q106
                  go_wp2
                  repeat (go_quiet (fail); try go_wp2)
                  go_ret
                  exact ⟨by first | rfl | (simp [errW_none, errW_some] <;> rfl) | (simp [*, errW_none, errW_some] <;> rfl), by repeat (first | (with_reducible first | exact HB.out | apply below_alloc | apply pw_below_drewN | apply below_drew1 | refine below_set ?_ GE105.out) | exact HB.out)⟩
                · rw [if_neg c14] at H
                  have c14b0 : decide (100 < ((rdOf ByteArray.empty l0_10 x3_2).size : Int)) = false := decide_eq_false c14
                  have c14b1 : decide (100 < (rdOf ByteArray.empty l0_10 x3_2).size) = false := decide_eq_false (by omega)
                  clear c14
                  have H' := Aside0.mk H
                  clear H
                  have hcz16_0 : wr.cell? ⟨gb105, 0, none⟩ = some (.string a0_0) := (blk_cell BK105.out 0).trans rfl
                  have hcz16_1 : wr.cell? ⟨gb105, 1, none⟩ = some (.string a0_1) := (blk_cell BK105.out 1).trans rfl
                  have hcz16_2 : wr.cell? ⟨gb105, 2, none⟩ = some (.string a0_2) := (blk_cell BK105.out 2).trans rfl
                  have hcz16_3 : wr.cell? ⟨gb105, 3, none⟩ = some (.bool a0_3) := (blk_cell BK105.out 3).trans rfl
                  have hcz16_4 : wr.cell? ⟨gb105, 4, none⟩ = some (.string a0_4) := (blk_cell BK105.out 4).trans rfl
                  have hcz16_5 : wr.cell? ⟨gb105, 5, none⟩ = some (.int .i64 a0_5) := (blk_cell BK105.out 5).trans rfl
                  have hcz16_6 : wr.cell? ⟨gb105, 6, none⟩ = some (.int .i64 a0_6) := (blk_cell BK105.out 6).trans rfl
                  have hcz16_7 : wr.cell? ⟨gb105, 7, none⟩ = some (.string a0_7) := (blk_cell BK105.out 7).trans rfl
                  have hcz16_8 : wr.cell? ⟨gb105, 8, none⟩ = some (.slice A0_8 l0_8.length c0_8) := (blk_cell BK105.out 8).trans rfl
                  have hcz16_9 : wr.cell? ⟨gb105, 9, none⟩ = some (.slice A0_9 l0_9.length c0_9) := (blk_cell BK105.out 9).trans rfl
                  have hcz16_10 : wr.cell? ⟨gb105, 10, none⟩ = some (.slice A0_10 l0_10.length c0_10) := (blk_cell BK105.out 10).trans rfl
                  have hcz16_11 : wr.cell? ⟨gb105, 11, none⟩ = some (.slice A0_11 l0_11.length c0_11) := (blk_cell BK105.out 11).trans rfl
                  have hcz16_12 : wr.cell? ⟨gb105, 12, none⟩ = some (.int .i64 a0_12) := (blk_cell BK105.out 12).trans rfl
                  have hcz16_13 : wr.cell? ⟨gb105, 13, none⟩ = some (.int .i64 a0_13) := (blk_cell BK105.out 13).trans rfl
                  have hcz16_14 : wr.cell? ⟨gb105, 14, none⟩ = some (.string a0_14) := (blk_cell BK105.out 14).trans rfl
                  have hcz16_15 : wr.cell? ⟨gb105, 15, none⟩ = some (.slice A0_15 l0_15.length c0_15) := (blk_cell BK105.out 15).trans rfl
                  have hfz16_0 := blk_frozen BK105.out 0
                  have hfz16_1 := blk_frozen BK105.out 1
                  have hfz16_2 := blk_frozen BK105.out 2
                  have hfz16_3 := blk_frozen BK105.out 3
                  have hfz16_4 := blk_frozen BK105.out 4
                  have hfz16_5 := blk_frozen BK105.out 5
                  have hfz16_6 := blk_frozen BK105.out 6
                  have hfz16_7 := blk_frozen BK105.out 7
                  have hfz16_8 := blk_frozen BK105.out 8
                  have hfz16_9 := blk_frozen BK105.out 9
                  have hfz16_10 := blk_frozen BK105.out 10
                  have hfz16_11 := blk_frozen BK105.out 11
                  have hfz16_12 := blk_frozen BK105.out 12
                  have hfz16_13 := blk_frozen BK105.out 13
                  have hfz16_14 := blk_frozen BK105.out 14
                  have hfz16_15 := blk_frozen BK105.out 15
                  have p106 : 0 ≤ (x3_2 : Int) := of_decide_eq_true (by first | (with_reducible assumption) | assumption)
                  have q106 : x3_2 < (l0_10.length : Int) := of_decide_eq_true (by first | (with_reducible assumption) | assumption)
                  obtain ⟨ad106, e106, hx106_0⟩ := Kd.at_string HR0_10.out x3_2 p106 q106
                  cases e106
                  replace hx106_0 := (HB.out.cell (World.block_lt_of_cell? w _ hx106_0)).trans hx106_0
                  replace p106 := eq_true p106
                  replace q106 := eq_true q106
                  go_wp2
                  repeat (go_quiet (fail); try go_wp2)
                  go_roundg k2
                  case measure => have := HJ1.out; have := HK2.out; omega
                  case rel => exact ⟨(wrap64 (x3_2 + 1)), (by first | rfl | (simp; done) | (simp [*]; done)), H', ⟨by have := HJ1.out; have := HK2.out; omega⟩, ⟨by (with_reducible repeat (first | refine blk_drewN ?_ _ | refine blk_drew ?_ | refine blk_alloc ?_ _)); exact BK105.out⟩, ⟨by repeat (first | (with_reducible first | exact HB.out | apply below_alloc | apply pw_below_drewN | apply below_drew1 | refine below_set ?_ GE105.out) | exact HB.out)⟩⟩
              · rw [if_neg c13] at H
                exact absurd H (by simp)
            · rw [if_neg c12] at H
              have c12b0 : decide (x3_2 < (l0_10.length : Int)) = false := decide_eq_false c12
              clear c12
              have H' := Aside0.mk H
              clear H
              have hcz17_0 : wr.cell? ⟨gb105, 0, none⟩ = some (.string a0_0) := (blk_cell BK105.out 0).trans rfl
              have hcz17_1 : wr.cell? ⟨gb105, 1, none⟩ = some (.string a0_1) := (blk_cell BK105.out 1).trans rfl
              have hcz17_2 : wr.cell? ⟨gb105, 2, none⟩ = some (.string a0_2) := (blk_cell BK105.out 2).trans rfl
              have hcz17_3 : wr.cell? ⟨gb105, 3, none⟩ = some (.bool a0_3) := (blk_cell BK105.out 3).trans rfl
              have hcz17_4 : wr.cell? ⟨gb105, 4, none⟩ = some (.string a0_4) := (blk_cell BK105.out 4).trans rfl
              have hcz17_5 : wr.cell? ⟨gb105, 5, none⟩ = some (.int .i64 a0_5) := (blk_cell BK105.out 5).trans rfl
              have hcz17_6 : wr.cell? ⟨gb105, 6, none⟩ = some (.int .i64 a0_6) := (blk_cell BK105.out 6).trans rfl
              have hcz17_7 : wr.cell? ⟨gb105, 7, none⟩ = some (.string a0_7) := (blk_cell BK105.out 7).trans rfl
              have hcz17_8 : wr.cell? ⟨gb105, 8, none⟩ = some (.slice A0_8 l0_8.length c0_8) := (blk_cell BK105.out 8).trans rfl
              have hcz17_9 : wr.cell? ⟨gb105, 9, none⟩ = some (.slice A0_9 l0_9.length c0_9) := (blk_cell BK105.out 9).trans rfl
              have hcz17_10 : wr.cell? ⟨gb105, 10, none⟩ = some (.slice A0_10 l0_10.length c0_10) := (blk_cell BK105.out 10).trans rfl
              have hcz17_11 : wr.cell? ⟨gb105, 11, none⟩ = some (.slice A0_11 l0_11.length c0_11) := (blk_cell BK105.out 11).trans rfl
              have hcz17_12 : wr.cell? ⟨gb105, 12, none⟩ = some (.int .i64 a0_12) := (blk_cell BK105.out 12).trans rfl
              have hcz17_13 : wr.cell? ⟨gb105, 13, none⟩ = some (.int .i64 a0_13) := (blk_cell BK105.out 13).trans rfl
              have hcz17_14 : wr.cell? ⟨gb105, 14, none⟩ = some (.string a0_14) := (blk_cell BK105.out 14).trans rfl
              have hcz17_15 : wr.cell? ⟨gb105, 15, none⟩ = some (.slice A0_15 l0_15.length c0_15) := (blk_cell BK105.out 15).trans rfl
              have hfz17_0 := blk_frozen BK105.out 0
              have hfz17_1 := blk_frozen BK105.out 1
              have hfz17_2 := blk_frozen BK105.out 2
              have hfz17_3 := blk_frozen BK105.out 3
              have hfz17_4 := blk_frozen BK105.out 4
              have hfz17_5 := blk_frozen BK105.out 5
              have hfz17_6 := blk_frozen BK105.out 6
              have hfz17_7 := blk_frozen BK105.out 7
              have hfz17_8 := blk_frozen BK105.out 8
              have hfz17_9 := blk_frozen BK105.out 9
              have hfz17_10 := blk_frozen BK105.out 10
              have hfz17_11 := blk_frozen BK105.out 11
              have hfz17_12 := blk_frozen BK105.out 12
              have hfz17_13 := blk_frozen BK105.out 13
              have hfz17_14 := blk_frozen BK105.out 14
              have hfz17_15 := blk_frozen BK105.out 15
              go_wp2
              repeat (go_quiet (fail); try go_wp2)
              go_loopg [4] k2 (fun kq v4 w' => ∃ (x4_3 : Int), v4 = .int .i64 x4_3 ∧ Aside0 (agoralaw05_Few.l1 kq x4_3 a0_0 a0_1 a0_2 a0_3 a0_4 a0_5 a0_6 a0_7 l0_8 l0_9 l0_10 l0_11 a0_12 a0_13 a0_14 l0_15 = some r) ∧ Aside0 (kq ≤ k2) ∧ Aside0 (w'.heap[gb105]? = some (.cells #[.string a0_0, .string a0_1, .string a0_2, .bool a0_3, .string a0_4, .int .i64 a0_5, .int .i64 a0_6, .string a0_7, (.slice A0_8 l0_8.length c0_8), (.slice A0_9 l0_9.length c0_9), (.slice A0_10 l0_10.length c0_10), (.slice A0_11 l0_11.length c0_11), .int .i64 a0_12, .int .i64 a0_13, .string a0_14, (.slice A0_15 l0_15.length c0_15)] 37 (0, 0))) ∧ Aside0 (Below w.heap.size w w'))
              case atStart => exact ⟨(0), (by first | rfl | (simp; done) | (simp [*]; done)), H', ⟨Nat.le_refl _⟩, ⟨by (with_reducible repeat (first | refine blk_drewN ?_ _ | refine blk_drew ?_ | refine blk_alloc ?_ _)); exact BK105.out⟩, ⟨by repeat (first | (with_reducible first | exact HB.out | apply below_alloc | apply pw_below_drewN | apply below_drew1 | refine below_set ?_ GE105.out) | exact HB.out)⟩⟩
              case round =>
                clear H'
                try clear c1
                try clear p1
                try clear q1
                try clear hx1
                try clear p2
                try clear c4
                try clear c4b0
                try clear c6
                try clear c6b0
                try clear c6b1
                try clear p6
                try clear c8
                try clear c8b0
                try clear c8b1
                try clear p10
                try clear q10
                try clear hx10
                try clear c11
                try clear c12
                try clear c12b0
                try clear c13
                try clear c13b0
                try clear c14
                try clear c14b0
                try clear c14b1
                try clear hcz10_0
                try clear hcz10_1
                try clear hcz10_10
                try clear hcz10_11
                try clear hcz10_12
                try clear hcz10_13
                try clear hcz10_14
                try clear hcz10_15
                try clear hcz10_2
                try clear hcz10_3
                try clear hcz10_4
                try clear hcz10_5
                try clear hcz10_6
                try clear hcz10_7
                try clear hcz10_8
                try clear hcz10_9
                try clear hcz15_0
                try clear hcz15_1
                try clear hcz15_10
                try clear hcz15_11
                try clear hcz15_12
                try clear hcz15_13
                try clear hcz15_14
                try clear hcz15_15
                try clear hcz15_2
                try clear hcz15_3
                try clear hcz15_4
                try clear hcz15_5
                try clear hcz15_6
                try clear hcz15_7
                try clear hcz15_8
                try clear hcz15_9
                try clear hcz16_0
                try clear hcz16_1
                try clear hcz16_10
                try clear hcz16_11
                try clear hcz16_12
                try clear hcz16_13
                try clear hcz16_14
                try clear hcz16_15
                try clear hcz16_2
                try clear hcz16_3
                try clear hcz16_4
                try clear hcz16_5
                try clear hcz16_6
                try clear hcz16_7
                try clear hcz16_8
                try clear hcz16_9
                try clear hcz17_0
                try clear hcz17_1
                try clear hcz17_10
                try clear hcz17_11
                try clear hcz17_12
                try clear hcz17_13
                try clear hcz17_14
                try clear hcz17_15
                try clear hcz17_2
                try clear hcz17_3
                try clear hcz17_4
                try clear hcz17_5
                try clear hcz17_6
                try clear hcz17_7
                try clear hcz17_8
                try clear hcz17_9
                try clear hcz5_0
                try clear hcz5_1
                try clear hcz5_10
                try clear hcz5_11
                try clear hcz5_12
                try clear hcz5_13
                try clear hcz5_14
                try clear hcz5_15
                try clear hcz5_2
                try clear hcz5_3
                try clear hcz5_4
                try clear hcz5_5
                try clear hcz5_6
                try clear hcz5_7
                try clear hcz5_8
                try clear hcz5_9
                try clear hcz7_0
                try clear hcz7_1
                try clear hcz7_10
                try clear hcz7_11
                try clear hcz7_12
                try clear hcz7_13
                try clear hcz7_14
                try clear hcz7_15
                try clear hcz7_2
                try clear hcz7_3
                try clear hcz7_4
                try clear hcz7_5
                try clear hcz7_6
                try clear hcz7_7
                try clear hcz7_8
                try clear hcz7_9
                try clear hcz9_0
                try clear hcz9_1
                try clear hcz9_10
                try clear hcz9_11
                try clear hcz9_12
                try clear hcz9_13
                try clear hcz9_14
                try clear hcz9_15
                try clear hcz9_2
                try clear hcz9_3
                try clear hcz9_4
                try clear hcz9_5
                try clear hcz9_6
                try clear hcz9_7
                try clear hcz9_8
                try clear hcz9_9
                try clear hfz10_0
                try clear hfz10_1
                try clear hfz10_10
                try clear hfz10_11
                try clear hfz10_12
                try clear hfz10_13
                try clear hfz10_14
                try clear hfz10_15
                try clear hfz10_2
                try clear hfz10_3
                try clear hfz10_4
                try clear hfz10_5
                try clear hfz10_6
                try clear hfz10_7
                try clear hfz10_8
                try clear hfz10_9
                try clear hfz15_0
                try clear hfz15_1
                try clear hfz15_10
                try clear hfz15_11
                try clear hfz15_12
                try clear hfz15_13
                try clear hfz15_14
                try clear hfz15_15
                try clear hfz15_2
                try clear hfz15_3
                try clear hfz15_4
                try clear hfz15_5
                try clear hfz15_6
                try clear hfz15_7
                try clear hfz15_8
                try clear hfz15_9
                try clear hfz16_0
                try clear hfz16_1
                try clear hfz16_10
                try clear hfz16_11
                try clear hfz16_12
                try clear hfz16_13
                try clear hfz16_14
                try clear hfz16_15
                try clear hfz16_2
                try clear hfz16_3
                try clear hfz16_4
                try clear hfz16_5
                try clear hfz16_6
                try clear hfz16_7
                try clear hfz16_8
                try clear hfz16_9
                try clear hfz17_0
                try clear hfz17_1
                try clear hfz17_10
                try clear hfz17_11
                try clear hfz17_12
                try clear hfz17_13
                try clear hfz17_14
                try clear hfz17_15
                try clear hfz17_2
                try clear hfz17_3
                try clear hfz17_4
                try clear hfz17_5
                try clear hfz17_6
                try clear hfz17_7
                try clear hfz17_8
                try clear hfz17_9
                try clear hfz5_0
                try clear hfz5_1
                try clear hfz5_10
                try clear hfz5_11
                try clear hfz5_12
                try clear hfz5_13
                try clear hfz5_14
                try clear hfz5_15
                try clear hfz5_2
                try clear hfz5_3
                try clear hfz5_4
                try clear hfz5_5
                try clear hfz5_6
                try clear hfz5_7
                try clear hfz5_8
                try clear hfz5_9
                try clear hfz7_0
                try clear hfz7_1
                try clear hfz7_10
                try clear hfz7_11
                try clear hfz7_12
                try clear hfz7_13
                try clear hfz7_14
                try clear hfz7_15
                try clear hfz7_2
                try clear hfz7_3
                try clear hfz7_4
                try clear hfz7_5
                try clear hfz7_6
                try clear hfz7_7
                try clear hfz7_8
                try clear hfz7_9
                try clear hfz9_0
                try clear hfz9_1
                try clear hfz9_10
                try clear hfz9_11
                try clear hfz9_12
                try clear hfz9_13
                try clear hfz9_14
                try clear hfz9_15
                try clear hfz9_2
                try clear hfz9_3
                try clear hfz9_4
                try clear hfz9_5
                try clear hfz9_6
                try clear hfz9_7
                try clear hfz9_8
                try clear hfz9_9
                try clear hx106_0
                try clear p106
                try clear p2
                try clear p6
                try clear q106
                obtain ⟨x4_3, rfl, HA, HK3, BK105, HB⟩ := hrel
                cases gk with
                | zero => exact absurd HA.out (by simp [agoralaw05_Few.l1])
                | succ k3 =>
                  have H := HA.out
                  clear HA
                  simp only [agoralaw05_Few.l1] at H
                  by_cases c18 : x4_3 < (l0_11.length : Int)
                  · rw [if_pos c18] at H
                    have c18b0 : decide (x4_3 < (l0_11.length : Int)) = true := decide_eq_true c18
                    clear c18
                    by_cases c19 : 0 ≤ x4_3
                    · rw [if_pos c19] at H
                      have c19b0 : decide (0 ≤ x4_3) = true := decide_eq_true c19
                      clear c19
                      by_cases c20 : ((rdOf ByteArray.empty l0_11 x4_3).size : Int) > 100
                      · rw [if_pos c20] at H
                        have c20b0 : decide (100 < ((rdOf ByteArray.empty l0_11 x4_3).size : Int)) = true := decide_eq_true c20
                        have c20b1 : decide (100 < (rdOf ByteArray.empty l0_11 x4_3).size) = true := decide_eq_true (by omega)
                        clear c20
                        obtain rfl := Option.some.inj H
                        have hcz21_0 : wr.cell? ⟨gb105, 0, none⟩ = some (.string a0_0) := (blk_cell BK105.out 0).trans rfl
                        have hcz21_1 : wr.cell? ⟨gb105, 1, none⟩ = some (.string a0_1) := (blk_cell BK105.out 1).trans rfl
                        have hcz21_2 : wr.cell? ⟨gb105, 2, none⟩ = some (.string a0_2) := (blk_cell BK105.out 2).trans rfl
                        have hcz21_3 : wr.cell? ⟨gb105, 3, none⟩ = some (.bool a0_3) := (blk_cell BK105.out 3).trans rfl
                        have hcz21_4 : wr.cell? ⟨gb105, 4, none⟩ = some (.string a0_4) := (blk_cell BK105.out 4).trans rfl
                        have hcz21_5 : wr.cell? ⟨gb105, 5, none⟩ = some (.int .i64 a0_5) := (blk_cell BK105.out 5).trans rfl
                        have hcz21_6 : wr.cell? ⟨gb105, 6, none⟩ = some (.int .i64 a0_6) := (blk_cell BK105.out 6).trans rfl
                        have hcz21_7 : wr.cell? ⟨gb105, 7, none⟩ = some (.string a0_7) := (blk_cell BK105.out 7).trans rfl
                        have hcz21_8 : wr.cell? ⟨gb105, 8, none⟩ = some (.slice A0_8 l0_8.length c0_8) := (blk_cell BK105.out 8).trans rfl
                        have hcz21_9 : wr.cell? ⟨gb105, 9, none⟩ = some (.slice A0_9 l0_9.length c0_9) := (blk_cell BK105.out 9).trans rfl
                        have hcz21_10 : wr.cell? ⟨gb105, 10, none⟩ = some (.slice A0_10 l0_10.length c0_10) := (blk_cell BK105.out 10).trans rfl
                        have hcz21_11 : wr.cell? ⟨gb105, 11, none⟩ = some (.slice A0_11 l0_11.length c0_11) := (blk_cell BK105.out 11).trans rfl
                        have hcz21_12 : wr.cell? ⟨gb105, 12, none⟩ = some (.int .i64 a0_12) := (blk_cell BK105.out 12).trans rfl
                        have hcz21_13 : wr.cell? ⟨gb105, 13, none⟩ = some (.int .i64 a0_13) := (blk_cell BK105.out 13).trans rfl
                        have hcz21_14 : wr.cell? ⟨gb105, 14, none⟩ = some (.string a0_14) := (blk_cell BK105.out 14).trans rfl
                        have hcz21_15 : wr.cell? ⟨gb105, 15, none⟩ = some (.slice A0_15 l0_15.length c0_15) := (blk_cell BK105.out 15).trans rfl
                        have hfz21_0 := blk_frozen BK105.out 0
                        have hfz21_1 := blk_frozen BK105.out 1
                        have hfz21_2 := blk_frozen BK105.out 2
                        have hfz21_3 := blk_frozen BK105.out 3
                        have hfz21_4 := blk_frozen BK105.out 4
                        have hfz21_5 := blk_frozen BK105.out 5
                        have hfz21_6 := blk_frozen BK105.out 6
                        have hfz21_7 := blk_frozen BK105.out 7
                        have hfz21_8 := blk_frozen BK105.out 8
                        have hfz21_9 := blk_frozen BK105.out 9
                        have hfz21_10 := blk_frozen BK105.out 10
                        have hfz21_11 := blk_frozen BK105.out 11
                        have hfz21_12 := blk_frozen BK105.out 12
                        have hfz21_13 := blk_frozen BK105.out 13
                        have hfz21_14 := blk_frozen BK105.out 14
                        have hfz21_15 := blk_frozen BK105.out 15
                        have p107 : 0 ≤ (x4_3 : Int) := of_decide_eq_true (by first | (with_reducible assumption) | assumption)
                        have q107 : x4_3 < (l0_11.length : Int) := of_decide_eq_true (by first | (with_reducible assumption) | assumption)
                        obtain ⟨ad107, e107, hx107_0⟩ := Kd.at_string HR0_11.out x4_3 p107 q107
                        cases e107
                        replace hx107_0 := (HB.out.cell (World.block_lt_of_cell? w _ hx107_0)).trans hx107_0
                        replace p107 := eq_true p107
                        replace q107 := eq_true q107
                        go_wp2
                        repeat (go_quiet (fail); try go_wp2)
                        go_ret
                        exact ⟨by first | rfl | (simp [errW_none, errW_some] <;> rfl) | (simp [*, errW_none, errW_some] <;> rfl), by repeat (first | (with_reducible first | exact HB.out | apply below_alloc | apply pw_below_drewN | apply below_drew1 | refine below_set ?_ GE105.out) | exact HB.out)⟩
                      · rw [if_neg c20] at H
                        have c20b0 : decide (100 < ((rdOf ByteArray.empty l0_11 x4_3).size : Int)) = false := decide_eq_false c20
                        have c20b1 : decide (100 < (rdOf ByteArray.empty l0_11 x4_3).size) = false := decide_eq_false (by omega)
                        clear c20
                        have H' := Aside0.mk H
                        clear H
                        have hcz22_0 : wr.cell? ⟨gb105, 0, none⟩ = some (.string a0_0) := (blk_cell BK105.out 0).trans rfl
                        have hcz22_1 : wr.cell? ⟨gb105, 1, none⟩ = some (.string a0_1) := (blk_cell BK105.out 1).trans rfl
                        have hcz22_2 : wr.cell? ⟨gb105, 2, none⟩ = some (.string a0_2) := (blk_cell BK105.out 2).trans rfl
                        have hcz22_3 : wr.cell? ⟨gb105, 3, none⟩ = some (.bool a0_3) := (blk_cell BK105.out 3).trans rfl
                        have hcz22_4 : wr.cell? ⟨gb105, 4, none⟩ = some (.string a0_4) := (blk_cell BK105.out 4).trans rfl
                        have hcz22_5 : wr.cell? ⟨gb105, 5, none⟩ = some (.int .i64 a0_5) := (blk_cell BK105.out 5).trans rfl
                        have hcz22_6 : wr.cell? ⟨gb105, 6, none⟩ = some (.int .i64 a0_6) := (blk_cell BK105.out 6).trans rfl
                        have hcz22_7 : wr.cell? ⟨gb105, 7, none⟩ = some (.string a0_7) := (blk_cell BK105.out 7).trans rfl
                        have hcz22_8 : wr.cell? ⟨gb105, 8, none⟩ = some (.slice A0_8 l0_8.length c0_8) := (blk_cell BK105.out 8).trans rfl
                        have hcz22_9 : wr.cell? ⟨gb105, 9, none⟩ = some (.slice A0_9 l0_9.length c0_9) := (blk_cell BK105.out 9).trans rfl
                        have hcz22_10 : wr.cell? ⟨gb105, 10, none⟩ = some (.slice A0_10 l0_10.length c0_10) := (blk_cell BK105.out 10).trans rfl
                        have hcz22_11 : wr.cell? ⟨gb105, 11, none⟩ = some (.slice A0_11 l0_11.length c0_11) := (blk_cell BK105.out 11).trans rfl
                        have hcz22_12 : wr.cell? ⟨gb105, 12, none⟩ = some (.int .i64 a0_12) := (blk_cell BK105.out 12).trans rfl
                        have hcz22_13 : wr.cell? ⟨gb105, 13, none⟩ = some (.int .i64 a0_13) := (blk_cell BK105.out 13).trans rfl
                        have hcz22_14 : wr.cell? ⟨gb105, 14, none⟩ = some (.string a0_14) := (blk_cell BK105.out 14).trans rfl
                        have hcz22_15 : wr.cell? ⟨gb105, 15, none⟩ = some (.slice A0_15 l0_15.length c0_15) := (blk_cell BK105.out 15).trans rfl
                        have hfz22_0 := blk_frozen BK105.out 0
                        have hfz22_1 := blk_frozen BK105.out 1
                        have hfz22_2 := blk_frozen BK105.out 2
                        have hfz22_3 := blk_frozen BK105.out 3
                        have hfz22_4 := blk_frozen BK105.out 4
                        have hfz22_5 := blk_frozen BK105.out 5
                        have hfz22_6 := blk_frozen BK105.out 6
                        have hfz22_7 := blk_frozen BK105.out 7
                        have hfz22_8 := blk_frozen BK105.out 8
                        have hfz22_9 := blk_frozen BK105.out 9
                        have hfz22_10 := blk_frozen BK105.out 10
                        have hfz22_11 := blk_frozen BK105.out 11
                        have hfz22_12 := blk_frozen BK105.out 12
                        have hfz22_13 := blk_frozen BK105.out 13
                        have hfz22_14 := blk_frozen BK105.out 14
                        have hfz22_15 := blk_frozen BK105.out 15
                        have p107 : 0 ≤ (x4_3 : Int) := of_decide_eq_true (by first | (with_reducible assumption) | assumption)
                        have q107 : x4_3 < (l0_11.length : Int) := of_decide_eq_true (by first | (with_reducible assumption) | assumption)
                        obtain ⟨ad107, e107, hx107_0⟩ := Kd.at_string HR0_11.out x4_3 p107 q107
                        cases e107
                        replace hx107_0 := (HB.out.cell (World.block_lt_of_cell? w _ hx107_0)).trans hx107_0
                        replace p107 := eq_true p107
                        replace q107 := eq_true q107
                        go_wp2
                        repeat (go_quiet (fail); try go_wp2)
                        go_roundg k3
                        case measure => have := HJ1.out; have := HK2.out; have := HK3.out; omega
                        case rel => exact ⟨(wrap64 (x4_3 + 1)), (by first | rfl | (simp; done) | (simp [*]; done)), H', ⟨by have := HJ1.out; have := HK2.out; have := HK3.out; omega⟩, ⟨by (with_reducible repeat (first | refine blk_drewN ?_ _ | refine blk_drew ?_ | refine blk_alloc ?_ _)); exact BK105.out⟩, ⟨by repeat (first | (with_reducible first | exact HB.out | apply below_alloc | apply pw_below_drewN | apply below_drew1 | refine below_set ?_ GE105.out) | exact HB.out)⟩⟩
                    · rw [if_neg c19] at H
                      exact absurd H (by simp)
                  · rw [if_neg c18] at H
                    have c18b0 : decide (x4_3 < (l0_11.length : Int)) = false := decide_eq_false c18
                    clear c18
                    have H' := Aside0.mk H
                    clear H
                    have hcz23_0 : wr.cell? ⟨gb105, 0, none⟩ = some (.string a0_0) := (blk_cell BK105.out 0).trans rfl
                    have hcz23_1 : wr.cell? ⟨gb105, 1, none⟩ = some (.string a0_1) := (blk_cell BK105.out 1).trans rfl
                    have hcz23_2 : wr.cell? ⟨gb105, 2, none⟩ = some (.string a0_2) := (blk_cell BK105.out 2).trans rfl
                    have hcz23_3 : wr.cell? ⟨gb105, 3, none⟩ = some (.bool a0_3) := (blk_cell BK105.out 3).trans rfl
                    have hcz23_4 : wr.cell? ⟨gb105, 4, none⟩ = some (.string a0_4) := (blk_cell BK105.out 4).trans rfl
                    have hcz23_5 : wr.cell? ⟨gb105, 5, none⟩ = some (.int .i64 a0_5) := (blk_cell BK105.out 5).trans rfl
                    have hcz23_6 : wr.cell? ⟨gb105, 6, none⟩ = some (.int .i64 a0_6) := (blk_cell BK105.out 6).trans rfl
                    have hcz23_7 : wr.cell? ⟨gb105, 7, none⟩ = some (.string a0_7) := (blk_cell BK105.out 7).trans rfl
                    have hcz23_8 : wr.cell? ⟨gb105, 8, none⟩ = some (.slice A0_8 l0_8.length c0_8) := (blk_cell BK105.out 8).trans rfl
                    have hcz23_9 : wr.cell? ⟨gb105, 9, none⟩ = some (.slice A0_9 l0_9.length c0_9) := (blk_cell BK105.out 9).trans rfl
                    have hcz23_10 : wr.cell? ⟨gb105, 10, none⟩ = some (.slice A0_10 l0_10.length c0_10) := (blk_cell BK105.out 10).trans rfl
                    have hcz23_11 : wr.cell? ⟨gb105, 11, none⟩ = some (.slice A0_11 l0_11.length c0_11) := (blk_cell BK105.out 11).trans rfl
                    have hcz23_12 : wr.cell? ⟨gb105, 12, none⟩ = some (.int .i64 a0_12) := (blk_cell BK105.out 12).trans rfl
                    have hcz23_13 : wr.cell? ⟨gb105, 13, none⟩ = some (.int .i64 a0_13) := (blk_cell BK105.out 13).trans rfl
                    have hcz23_14 : wr.cell? ⟨gb105, 14, none⟩ = some (.string a0_14) := (blk_cell BK105.out 14).trans rfl
                    have hcz23_15 : wr.cell? ⟨gb105, 15, none⟩ = some (.slice A0_15 l0_15.length c0_15) := (blk_cell BK105.out 15).trans rfl
                    have hfz23_0 := blk_frozen BK105.out 0
                    have hfz23_1 := blk_frozen BK105.out 1
                    have hfz23_2 := blk_frozen BK105.out 2
                    have hfz23_3 := blk_frozen BK105.out 3
                    have hfz23_4 := blk_frozen BK105.out 4
                    have hfz23_5 := blk_frozen BK105.out 5
                    have hfz23_6 := blk_frozen BK105.out 6
                    have hfz23_7 := blk_frozen BK105.out 7
                    have hfz23_8 := blk_frozen BK105.out 8
                    have hfz23_9 := blk_frozen BK105.out 9
                    have hfz23_10 := blk_frozen BK105.out 10
                    have hfz23_11 := blk_frozen BK105.out 11
                    have hfz23_12 := blk_frozen BK105.out 12
                    have hfz23_13 := blk_frozen BK105.out 13
                    have hfz23_14 := blk_frozen BK105.out 14
                    have hfz23_15 := blk_frozen BK105.out 15
                    go_wp2
                    repeat (go_quiet (fail); try go_wp2)
                    go_loopg [5] k3 (fun kq v5 w' => ∃ (x5_4 : Int), v5 = .int .i64 x5_4 ∧ Aside0 (agoralaw05_Few.l2 kq x5_4 a0_0 a0_1 a0_2 a0_3 a0_4 a0_5 a0_6 a0_7 l0_8 l0_9 l0_10 l0_11 a0_12 a0_13 a0_14 l0_15 = some r) ∧ Aside0 (kq ≤ k3) ∧ Aside0 (w'.heap[gb105]? = some (.cells #[.string a0_0, .string a0_1, .string a0_2, .bool a0_3, .string a0_4, .int .i64 a0_5, .int .i64 a0_6, .string a0_7, (.slice A0_8 l0_8.length c0_8), (.slice A0_9 l0_9.length c0_9), (.slice A0_10 l0_10.length c0_10), (.slice A0_11 l0_11.length c0_11), .int .i64 a0_12, .int .i64 a0_13, .string a0_14, (.slice A0_15 l0_15.length c0_15)] 37 (0, 0))) ∧ Aside0 (Below w.heap.size w w'))
                    case atStart => exact ⟨(0), (by first | rfl | (simp; done) | (simp [*]; done)), H', ⟨Nat.le_refl _⟩, ⟨by (with_reducible repeat (first | refine blk_drewN ?_ _ | refine blk_drew ?_ | refine blk_alloc ?_ _)); exact BK105.out⟩, ⟨by repeat (first | (with_reducible first | exact HB.out | apply below_alloc | apply pw_below_drewN | apply below_drew1 | refine below_set ?_ GE105.out) | exact HB.out)⟩⟩
                    case round =>
                      clear H'
                      try clear c1
                      try clear p1
                      try clear q1
                      try clear hx1
                      try clear c2
                      try clear p2
                      try clear c4
                      try clear c4b0
                      try clear c6
                      try clear c6b0
                      try clear c6b1
                      try clear p6
                      try clear c8
                      try clear c8b0
                      try clear c8b1
                      try clear p10
                      try clear q10
                      try clear hx10
                      try clear c11
                      try clear c12
                      try clear c12b0
                      try clear c13
                      try clear c13b0
                      try clear c14
                      try clear c14b0
                      try clear c14b1
                      try clear c18
                      try clear c18b0
                      try clear c19
                      try clear c19b0
                      try clear c20
                      try clear c20b0
                      try clear c20b1
                      try clear hcz10_0
                      try clear hcz10_1
                      try clear hcz10_10
                      try clear hcz10_11
                      try clear hcz10_12
                      try clear hcz10_13
                      try clear hcz10_14
                      try clear hcz10_15
                      try clear hcz10_2
                      try clear hcz10_3
                      try clear hcz10_4
                      try clear hcz10_5
                      try clear hcz10_6
                      try clear hcz10_7
                      try clear hcz10_8
                      try clear hcz10_9
                      try clear hcz15_0
                      try clear hcz15_1
                      try clear hcz15_10
                      try clear hcz15_11
                      try clear hcz15_12
                      try clear hcz15_13
                      try clear hcz15_14
                      try clear hcz15_15
                      try clear hcz15_2
                      try clear hcz15_3
                      try clear hcz15_4
                      try clear hcz15_5
                      try clear hcz15_6
                      try clear hcz15_7
                      try clear hcz15_8
                      try clear hcz15_9
                      try clear hcz16_0
                      try clear hcz16_1
                      try clear hcz16_10
                      try clear hcz16_11
                      try clear hcz16_12
                      try clear hcz16_13
                      try clear hcz16_14
                      try clear hcz16_15
                      try clear hcz16_2
                      try clear hcz16_3
                      try clear hcz16_4
                      try clear hcz16_5
                      try clear hcz16_6
                      try clear hcz16_7
                      try clear hcz16_8
                      try clear hcz16_9
                      try clear hcz17_0
                      try clear hcz17_1
                      try clear hcz17_10
                      try clear hcz17_11
                      try clear hcz17_12
                      try clear hcz17_13
                      try clear hcz17_14
                      try clear hcz17_15
                      try clear hcz17_2
                      try clear hcz17_3
                      try clear hcz17_4
                      try clear hcz17_5
                      try clear hcz17_6
                      try clear hcz17_7
                      try clear hcz17_8
                      try clear hcz17_9
                      try clear hcz21_0
                      try clear hcz21_1
                      try clear hcz21_10
                      try clear hcz21_11
                      try clear hcz21_12
                      try clear hcz21_13
                      try clear hcz21_14
                      try clear hcz21_15
                      try clear hcz21_2
                      try clear hcz21_3
                      try clear hcz21_4
                      try clear hcz21_5
                      try clear hcz21_6
                      try clear hcz21_7
                      try clear hcz21_8
                      try clear hcz21_9
                      try clear hcz22_0
                      try clear hcz22_1
                      try clear hcz22_10
                      try clear hcz22_11
                      try clear hcz22_12
                      try clear hcz22_13
                      try clear hcz22_14
                      try clear hcz22_15
                      try clear hcz22_2
                      try clear hcz22_3
                      try clear hcz22_4
                      try clear hcz22_5
                      try clear hcz22_6
                      try clear hcz22_7
                      try clear hcz22_8
                      try clear hcz22_9
                      try clear hcz23_0
                      try clear hcz23_1
                      try clear hcz23_10
                      try clear hcz23_11
                      try clear hcz23_12
                      try clear hcz23_13
                      try clear hcz23_14
                      try clear hcz23_15
                      try clear hcz23_2
                      try clear hcz23_3
                      try clear hcz23_4
                      try clear hcz23_5
                      try clear hcz23_6
                      try clear hcz23_7
                      try clear hcz23_8
                      try clear hcz23_9
                      try clear hcz5_0
                      try clear hcz5_1
                      try clear hcz5_10
                      try clear hcz5_11
                      try clear hcz5_12
                      try clear hcz5_13
                      try clear hcz5_14
                      try clear hcz5_15
                      try clear hcz5_2
                      try clear hcz5_3
                      try clear hcz5_4
                      try clear hcz5_5
                      try clear hcz5_6
                      try clear hcz5_7
                      try clear hcz5_8
                      try clear hcz5_9
                      try clear hcz7_0
                      try clear hcz7_1
                      try clear hcz7_10
                      try clear hcz7_11
                      try clear hcz7_12
                      try clear hcz7_13
                      try clear hcz7_14
                      try clear hcz7_15
                      try clear hcz7_2
                      try clear hcz7_3
                      try clear hcz7_4
                      try clear hcz7_5
                      try clear hcz7_6
                      try clear hcz7_7
                      try clear hcz7_8
                      try clear hcz7_9
                      try clear hcz9_0
                      try clear hcz9_1
                      try clear hcz9_10
                      try clear hcz9_11
                      try clear hcz9_12
                      try clear hcz9_13
                      try clear hcz9_14
                      try clear hcz9_15
                      try clear hcz9_2
                      try clear hcz9_3
                      try clear hcz9_4
                      try clear hcz9_5
                      try clear hcz9_6
                      try clear hcz9_7
                      try clear hcz9_8
                      try clear hcz9_9
                      try clear hfz10_0
                      try clear hfz10_1
                      try clear hfz10_10
                      try clear hfz10_11
                      try clear hfz10_12
                      try clear hfz10_13
                      try clear hfz10_14
                      try clear hfz10_15
                      try clear hfz10_2
                      try clear hfz10_3
                      try clear hfz10_4
                      try clear hfz10_5
                      try clear hfz10_6
                      try clear hfz10_7
                      try clear hfz10_8
                      try clear hfz10_9
                      try clear hfz15_0
                      try clear hfz15_1
                      try clear hfz15_10
                      try clear hfz15_11
                      try clear hfz15_12
                      try clear hfz15_13
                      try clear hfz15_14
                      try clear hfz15_15
                      try clear hfz15_2
                      try clear hfz15_3
                      try clear hfz15_4
                      try clear hfz15_5
                      try clear hfz15_6
                      try clear hfz15_7
                      try clear hfz15_8
                      try clear hfz15_9
                      try clear hfz16_0
                      try clear hfz16_1
                      try clear hfz16_10
                      try clear hfz16_11
                      try clear hfz16_12
                      try clear hfz16_13
                      try clear hfz16_14
                      try clear hfz16_15
                      try clear hfz16_2
                      try clear hfz16_3
                      try clear hfz16_4
                      try clear hfz16_5
                      try clear hfz16_6
                      try clear hfz16_7
                      try clear hfz16_8
                      try clear hfz16_9
                      try clear hfz17_0
                      try clear hfz17_1
                      try clear hfz17_10
                      try clear hfz17_11
                      try clear hfz17_12
                      try clear hfz17_13
                      try clear hfz17_14
                      try clear hfz17_15
                      try clear hfz17_2
                      try clear hfz17_3
                      try clear hfz17_4
                      try clear hfz17_5
                      try clear hfz17_6
                      try clear hfz17_7
                      try clear hfz17_8
                      try clear hfz17_9
                      try clear hfz21_0
                      try clear hfz21_1
                      try clear hfz21_10
                      try clear hfz21_11
                      try clear hfz21_12
                      try clear hfz21_13
                      try clear hfz21_14
                      try clear hfz21_15
                      try clear hfz21_2
                      try clear hfz21_3
                      try clear hfz21_4
                      try clear hfz21_5
                      try clear hfz21_6
                      try clear hfz21_7
                      try clear hfz21_8
                      try clear hfz21_9
                      try clear hfz22_0
                      try clear hfz22_1
                      try clear hfz22_10
                      try clear hfz22_11
                      try clear hfz22_12
                      try clear hfz22_13
                      try clear hfz22_14
                      try clear hfz22_15
                      try clear hfz22_2
                      try clear hfz22_3
                      try clear hfz22_4
                      try clear hfz22_5
                      try clear hfz22_6
                      try clear hfz22_7
                      try clear hfz22_8
                      try clear hfz22_9
                      try clear hfz23_0
                      try clear hfz23_1
                      try clear hfz23_10
                      try clear hfz23_11
                      try clear hfz23_12
                      try clear hfz23_13
                      try clear hfz23_14
                      try clear hfz23_15
                      try clear hfz23_2
                      try clear hfz23_3
                      try clear hfz23_4
                      try clear hfz23_5
                      try clear hfz23_6
                      try clear hfz23_7
                      try clear hfz23_8
                      try clear hfz23_9
                      try clear hfz5_0
                      try clear hfz5_1
                      try clear hfz5_10
                      try clear hfz5_11
                      try clear hfz5_12
                      try clear hfz5_13
                      try clear hfz5_14
                      try clear hfz5_15
                      try clear hfz5_2
                      try clear hfz5_3
                      try clear hfz5_4
                      try clear hfz5_5
                      try clear hfz5_6
                      try clear hfz5_7
                      try clear hfz5_8
                      try clear hfz5_9
                      try clear hfz7_0
                      try clear hfz7_1
                      try clear hfz7_10
                      try clear hfz7_11
                      try clear hfz7_12
                      try clear hfz7_13
                      try clear hfz7_14
                      try clear hfz7_15
                      try clear hfz7_2
                      try clear hfz7_3
                      try clear hfz7_4
                      try clear hfz7_5
                      try clear hfz7_6
                      try clear hfz7_7
                      try clear hfz7_8
                      try clear hfz7_9
                      try clear hfz9_0
                      try clear hfz9_1
                      try clear hfz9_10
                      try clear hfz9_11
                      try clear hfz9_12
                      try clear hfz9_13
                      try clear hfz9_14
                      try clear hfz9_15
                      try clear hfz9_2
                      try clear hfz9_3
                      try clear hfz9_4
                      try clear hfz9_5
                      try clear hfz9_6
                      try clear hfz9_7
                      try clear hfz9_8
                      try clear hfz9_9
                      try clear hx106_0
                      try clear hx107_0
                      try clear p1
                      try clear p10
                      try clear p106
                      try clear p107
                      try clear p2
                      try clear p6
                      try clear q1
                      try clear q10
                      try clear q106
                      try clear q107
                      obtain ⟨x5_4, rfl, HA, HK4, BK105, HB⟩ := hrel
                      cases gk with
                      | zero => exact absurd HA.out (by simp [agoralaw05_Few.l2])
                      | succ k4 =>
                        have H := HA.out
                        clear HA
                        simp only [agoralaw05_Few.l2] at H
                        by_cases c24 : x5_4 < (l0_15.length : Int)
                        · rw [if_pos c24] at H
                          have c24b0 : decide (x5_4 < (l0_15.length : Int)) = true := decide_eq_true c24
                          clear c24
                          by_cases c25 : 0 ≤ x5_4
                          · rw [if_pos c25] at H
                            have c25b0 : decide (0 ≤ x5_4) = true := decide_eq_true c25
                            clear c25
                            by_cases c26 : (wrap64 ((((rd_T48 l0_15 x5_4).f0).size : Int) + (((rd_T48 l0_15 x5_4).f1).size : Int))) > 200
                            · rw [if_pos c26] at H
                              have c26b0 : decide (200 < (wrap64 ((((rd_T48 l0_15 x5_4).f0).size : Int) + (((rd_T48 l0_15 x5_4).f1).size : Int)))) = true := decide_eq_true c26
                              clear c26
                              obtain rfl := Option.some.inj H
                              have hcz27_0 : wr.cell? ⟨gb105, 0, none⟩ = some (.string a0_0) := (blk_cell BK105.out 0).trans rfl
                              have hcz27_1 : wr.cell? ⟨gb105, 1, none⟩ = some (.string a0_1) := (blk_cell BK105.out 1).trans rfl
                              have hcz27_2 : wr.cell? ⟨gb105, 2, none⟩ = some (.string a0_2) := (blk_cell BK105.out 2).trans rfl
                              have hcz27_3 : wr.cell? ⟨gb105, 3, none⟩ = some (.bool a0_3) := (blk_cell BK105.out 3).trans rfl
                              have hcz27_4 : wr.cell? ⟨gb105, 4, none⟩ = some (.string a0_4) := (blk_cell BK105.out 4).trans rfl
                              have hcz27_5 : wr.cell? ⟨gb105, 5, none⟩ = some (.int .i64 a0_5) := (blk_cell BK105.out 5).trans rfl
                              have hcz27_6 : wr.cell? ⟨gb105, 6, none⟩ = some (.int .i64 a0_6) := (blk_cell BK105.out 6).trans rfl
                              have hcz27_7 : wr.cell? ⟨gb105, 7, none⟩ = some (.string a0_7) := (blk_cell BK105.out 7).trans rfl
                              have hcz27_8 : wr.cell? ⟨gb105, 8, none⟩ = some (.slice A0_8 l0_8.length c0_8) := (blk_cell BK105.out 8).trans rfl
                              have hcz27_9 : wr.cell? ⟨gb105, 9, none⟩ = some (.slice A0_9 l0_9.length c0_9) := (blk_cell BK105.out 9).trans rfl
                              have hcz27_10 : wr.cell? ⟨gb105, 10, none⟩ = some (.slice A0_10 l0_10.length c0_10) := (blk_cell BK105.out 10).trans rfl
                              have hcz27_11 : wr.cell? ⟨gb105, 11, none⟩ = some (.slice A0_11 l0_11.length c0_11) := (blk_cell BK105.out 11).trans rfl
                              have hcz27_12 : wr.cell? ⟨gb105, 12, none⟩ = some (.int .i64 a0_12) := (blk_cell BK105.out 12).trans rfl
                              have hcz27_13 : wr.cell? ⟨gb105, 13, none⟩ = some (.int .i64 a0_13) := (blk_cell BK105.out 13).trans rfl
                              have hcz27_14 : wr.cell? ⟨gb105, 14, none⟩ = some (.string a0_14) := (blk_cell BK105.out 14).trans rfl
                              have hcz27_15 : wr.cell? ⟨gb105, 15, none⟩ = some (.slice A0_15 l0_15.length c0_15) := (blk_cell BK105.out 15).trans rfl
                              have hfz27_0 := blk_frozen BK105.out 0
                              have hfz27_1 := blk_frozen BK105.out 1
                              have hfz27_2 := blk_frozen BK105.out 2
                              have hfz27_3 := blk_frozen BK105.out 3
                              have hfz27_4 := blk_frozen BK105.out 4
                              have hfz27_5 := blk_frozen BK105.out 5
                              have hfz27_6 := blk_frozen BK105.out 6
                              have hfz27_7 := blk_frozen BK105.out 7
                              have hfz27_8 := blk_frozen BK105.out 8
                              have hfz27_9 := blk_frozen BK105.out 9
                              have hfz27_10 := blk_frozen BK105.out 10
                              have hfz27_11 := blk_frozen BK105.out 11
                              have hfz27_12 := blk_frozen BK105.out 12
                              have hfz27_13 := blk_frozen BK105.out 13
                              have hfz27_14 := blk_frozen BK105.out 14
                              have hfz27_15 := blk_frozen BK105.out 15
                              have p108 : 0 ≤ (x5_4 : Int) := of_decide_eq_true (by first | (with_reducible assumption) | assumption)
                              have q108 : x5_4 < (l0_15.length : Int) := of_decide_eq_true (by first | (with_reducible assumption) | assumption)
                              obtain ⟨ad108, e108, hx108_0, hx108_1⟩ := at_T48 HR0_15.out x5_4 p108 q108
                              cases e108
                              replace hx108_0 := (HB.out.cell (World.block_lt_of_cell? w _ hx108_0)).trans hx108_0
                              replace hx108_1 := (HB.out.cell (World.block_lt_of_cell? w _ hx108_1)).trans hx108_1
                              replace p108 := eq_true p108
                              replace q108 := eq_true q108
                              have p109 : 0 ≤ (x5_4 : Int) := of_decide_eq_true (by first | (with_reducible assumption) | assumption)
                              have q109 : x5_4 < (l0_15.length : Int) := of_decide_eq_true (by first | (with_reducible assumption) | assumption)
                              obtain ⟨ad109, e109, hx109_0, hx109_1⟩ := at_T48 HR0_15.out x5_4 p109 q109
                              obtain rfl : ad108 = ad109 := (by injection e109)
                              replace hx109_0 := (HB.out.cell (World.block_lt_of_cell? w _ hx109_0)).trans hx109_0
                              replace hx109_1 := (HB.out.cell (World.block_lt_of_cell? w _ hx109_1)).trans hx109_1
                              replace p109 := eq_true p109
                              replace q109 := eq_true q109
                              go_wp2
                              repeat (go_quiet (fail); try go_wp2)
                              go_ret
                              exact ⟨by first | rfl | (simp [errW_none, errW_some] <;> rfl) | (simp [*, errW_none, errW_some] <;> rfl), by repeat (first | (with_reducible first | exact HB.out | apply below_alloc | apply pw_below_drewN | apply below_drew1 | refine below_set ?_ GE105.out) | exact HB.out)⟩
                            · rw [if_neg c26] at H
                              have c26b0 : decide (200 < (wrap64 ((((rd_T48 l0_15 x5_4).f0).size : Int) + (((rd_T48 l0_15 x5_4).f1).size : Int)))) = false := decide_eq_false c26
                              clear c26
                              have H' := Aside0.mk H
                              clear H
                              have hcz28_0 : wr.cell? ⟨gb105, 0, none⟩ = some (.string a0_0) := (blk_cell BK105.out 0).trans rfl
                              have hcz28_1 : wr.cell? ⟨gb105, 1, none⟩ = some (.string a0_1) := (blk_cell BK105.out 1).trans rfl
                              have hcz28_2 : wr.cell? ⟨gb105, 2, none⟩ = some (.string a0_2) := (blk_cell BK105.out 2).trans rfl
                              have hcz28_3 : wr.cell? ⟨gb105, 3, none⟩ = some (.bool a0_3) := (blk_cell BK105.out 3).trans rfl
                              have hcz28_4 : wr.cell? ⟨gb105, 4, none⟩ = some (.string a0_4) := (blk_cell BK105.out 4).trans rfl
                              have hcz28_5 : wr.cell? ⟨gb105, 5, none⟩ = some (.int .i64 a0_5) := (blk_cell BK105.out 5).trans rfl
                              have hcz28_6 : wr.cell? ⟨gb105, 6, none⟩ = some (.int .i64 a0_6) := (blk_cell BK105.out 6).trans rfl
                              have hcz28_7 : wr.cell? ⟨gb105, 7, none⟩ = some (.string a0_7) := (blk_cell BK105.out 7).trans rfl
                              have hcz28_8 : wr.cell? ⟨gb105, 8, none⟩ = some (.slice A0_8 l0_8.length c0_8) := (blk_cell BK105.out 8).trans rfl
                              have hcz28_9 : wr.cell? ⟨gb105, 9, none⟩ = some (.slice A0_9 l0_9.length c0_9) := (blk_cell BK105.out 9).trans rfl
                              have hcz28_10 : wr.cell? ⟨gb105, 10, none⟩ = some (.slice A0_10 l0_10.length c0_10) := (blk_cell BK105.out 10).trans rfl
                              have hcz28_11 : wr.cell? ⟨gb105, 11, none⟩ = some (.slice A0_11 l0_11.length c0_11) := (blk_cell BK105.out 11).trans rfl
                              have hcz28_12 : wr.cell? ⟨gb105, 12, none⟩ = some (.int .i64 a0_12) := (blk_cell BK105.out 12).trans rfl
                              have hcz28_13 : wr.cell? ⟨gb105, 13, none⟩ = some (.int .i64 a0_13) := (blk_cell BK105.out 13).trans rfl
                              have hcz28_14 : wr.cell? ⟨gb105, 14, none⟩ = some (.string a0_14) := (blk_cell BK105.out 14).trans rfl
                              have hcz28_15 : wr.cell? ⟨gb105, 15, none⟩ = some (.slice A0_15 l0_15.length c0_15) := (blk_cell BK105.out 15).trans rfl
                              have hfz28_0 := blk_frozen BK105.out 0
                              have hfz28_1 := blk_frozen BK105.out 1
                              have hfz28_2 := blk_frozen BK105.out 2
                              have hfz28_3 := blk_frozen BK105.out 3
                              have hfz28_4 := blk_frozen BK105.out 4
                              have hfz28_5 := blk_frozen BK105.out 5
                              have hfz28_6 := blk_frozen BK105.out 6
                              have hfz28_7 := blk_frozen BK105.out 7
                              have hfz28_8 := blk_frozen BK105.out 8
                              have hfz28_9 := blk_frozen BK105.out 9
                              have hfz28_10 := blk_frozen BK105.out 10
                              have hfz28_11 := blk_frozen BK105.out 11
                              have hfz28_12 := blk_frozen BK105.out 12
                              have hfz28_13 := blk_frozen BK105.out 13
                              have hfz28_14 := blk_frozen BK105.out 14
                              have hfz28_15 := blk_frozen BK105.out 15
                              have p108 : 0 ≤ (x5_4 : Int) := of_decide_eq_true (by first | (with_reducible assumption) | assumption)
                              have q108 : x5_4 < (l0_15.length : Int) := of_decide_eq_true (by first | (with_reducible assumption) | assumption)
                              obtain ⟨ad108, e108, hx108_0, hx108_1⟩ := at_T48 HR0_15.out x5_4 p108 q108
                              cases e108
                              replace hx108_0 := (HB.out.cell (World.block_lt_of_cell? w _ hx108_0)).trans hx108_0
                              replace hx108_1 := (HB.out.cell (World.block_lt_of_cell? w _ hx108_1)).trans hx108_1
                              replace p108 := eq_true p108
                              replace q108 := eq_true q108
                              have p109 : 0 ≤ (x5_4 : Int) := of_decide_eq_true (by first | (with_reducible assumption) | assumption)
                              have q109 : x5_4 < (l0_15.length : Int) := of_decide_eq_true (by first | (with_reducible assumption) | assumption)
                              obtain ⟨ad109, e109, hx109_0, hx109_1⟩ := at_T48 HR0_15.out x5_4 p109 q109
                              obtain rfl : ad108 = ad109 := (by injection e109)
                              replace hx109_0 := (HB.out.cell (World.block_lt_of_cell? w _ hx109_0)).trans hx109_0
                              replace hx109_1 := (HB.out.cell (World.block_lt_of_cell? w _ hx109_1)).trans hx109_1
                              replace p109 := eq_true p109
                              replace q109 := eq_true q109
                              go_wp2
                              repeat (go_quiet (fail); try go_wp2)
                              go_roundg k4
                              case measure => have := HJ1.out; have := HK2.out; have := HK3.out; have := HK4.out; omega
                              case rel => exact ⟨(wrap64 (x5_4 + 1)), (by first | rfl | (simp; done) | (simp [*]; done)), H', ⟨by have := HJ1.out; have := HK2.out; have := HK3.out; have := HK4.out; omega⟩, ⟨by (with_reducible repeat (first | refine blk_drewN ?_ _ | refine blk_drew ?_ | refine blk_alloc ?_ _)); exact BK105.out⟩, ⟨by repeat (first | (with_reducible first | exact HB.out | apply below_alloc | apply pw_below_drewN | apply below_drew1 | refine below_set ?_ GE105.out) | exact HB.out)⟩⟩
                          · rw [if_neg c25] at H
                            exact absurd H (by simp)
                        · rw [if_neg c24] at H
                          have c24b0 : decide (x5_4 < (l0_15.length : Int)) = false := decide_eq_false c24
                          clear c24
                          replace H := Option.bind_eq_some_iff.mp H
                          obtain ⟨t110, A290, H⟩ := H
                          replace H : (some (decide (t110 ≥ 0))) = some r := H
                          have A29 := Aside0.mk A290
                          clear A290
                          obtain rfl := Option.some.inj H
                          have hcz30_0 : wr.cell? ⟨gb105, 0, none⟩ = some (.string a0_0) := (blk_cell BK105.out 0).trans rfl
                          have hcz30_1 : wr.cell? ⟨gb105, 1, none⟩ = some (.string a0_1) := (blk_cell BK105.out 1).trans rfl
                          have hcz30_2 : wr.cell? ⟨gb105, 2, none⟩ = some (.string a0_2) := (blk_cell BK105.out 2).trans rfl
                          have hcz30_3 : wr.cell? ⟨gb105, 3, none⟩ = some (.bool a0_3) := (blk_cell BK105.out 3).trans rfl
                          have hcz30_4 : wr.cell? ⟨gb105, 4, none⟩ = some (.string a0_4) := (blk_cell BK105.out 4).trans rfl
                          have hcz30_5 : wr.cell? ⟨gb105, 5, none⟩ = some (.int .i64 a0_5) := (blk_cell BK105.out 5).trans rfl
                          have hcz30_6 : wr.cell? ⟨gb105, 6, none⟩ = some (.int .i64 a0_6) := (blk_cell BK105.out 6).trans rfl
                          have hcz30_7 : wr.cell? ⟨gb105, 7, none⟩ = some (.string a0_7) := (blk_cell BK105.out 7).trans rfl
                          have hcz30_8 : wr.cell? ⟨gb105, 8, none⟩ = some (.slice A0_8 l0_8.length c0_8) := (blk_cell BK105.out 8).trans rfl
                          have hcz30_9 : wr.cell? ⟨gb105, 9, none⟩ = some (.slice A0_9 l0_9.length c0_9) := (blk_cell BK105.out 9).trans rfl
                          have hcz30_10 : wr.cell? ⟨gb105, 10, none⟩ = some (.slice A0_10 l0_10.length c0_10) := (blk_cell BK105.out 10).trans rfl
                          have hcz30_11 : wr.cell? ⟨gb105, 11, none⟩ = some (.slice A0_11 l0_11.length c0_11) := (blk_cell BK105.out 11).trans rfl
                          have hcz30_12 : wr.cell? ⟨gb105, 12, none⟩ = some (.int .i64 a0_12) := (blk_cell BK105.out 12).trans rfl
                          have hcz30_13 : wr.cell? ⟨gb105, 13, none⟩ = some (.int .i64 a0_13) := (blk_cell BK105.out 13).trans rfl
                          have hcz30_14 : wr.cell? ⟨gb105, 14, none⟩ = some (.string a0_14) := (blk_cell BK105.out 14).trans rfl
                          have hcz30_15 : wr.cell? ⟨gb105, 15, none⟩ = some (.slice A0_15 l0_15.length c0_15) := (blk_cell BK105.out 15).trans rfl
                          have hfz30_0 := blk_frozen BK105.out 0
                          have hfz30_1 := blk_frozen BK105.out 1
                          have hfz30_2 := blk_frozen BK105.out 2
                          have hfz30_3 := blk_frozen BK105.out 3
                          have hfz30_4 := blk_frozen BK105.out 4
                          have hfz30_5 := blk_frozen BK105.out 5
                          have hfz30_6 := blk_frozen BK105.out 6
                          have hfz30_7 := blk_frozen BK105.out 7
                          have hfz30_8 := blk_frozen BK105.out 8
                          have hfz30_9 := blk_frozen BK105.out 9
                          have hfz30_10 := blk_frozen BK105.out 10
                          have hfz30_11 := blk_frozen BK105.out 11
                          have hfz30_12 := blk_frozen BK105.out 12
                          have hfz30_13 := blk_frozen BK105.out 13
                          have hfz30_14 := blk_frozen BK105.out 14
                          have hfz30_15 := blk_frozen BK105.out 15
                          go_wp2_with (first | (go_at_call 29; (with_reducible refine (agoralaw05_left.calls k4 a0_5 a0_6 a0_7 _ _ l0_8 _ _ l0_9 300 20 t110 _ ?side1 ?side2 ?side3 ?side4 A29.out).mono ?_); (case side1 => repeat (first | exact (Kd.C_below HR0_8.out HB.out) | (with_reducible refine Kd.C_alloc ?_ _) | (with_reducible refine Kd.C_drewN ?_ _) | (with_reducible refine Kd.C_drew ?_))); (case side2 => exact HC0_8.out); (case side3 => repeat (first | exact (Kd.C_below HR0_9.out HB.out) | (with_reducible refine Kd.C_alloc ?_ _) | (with_reducible refine Kd.C_drewN ?_ _) | (with_reducible refine Kd.C_drew ?_))); (case side4 => exact HC0_9.out); rintro e w31 ⟨rfl, hb⟩; have n0_ := Aside0.mk (blk_below (g := gb105) (o := .cells #[.string a0_0, .string a0_1, .string a0_2, .bool a0_3, .string a0_4, .int .i64 a0_5, .int .i64 a0_6, .string a0_7, .slice A0_8 l0_8.length c0_8, .slice A0_9 l0_9.length c0_9, .slice A0_10 l0_10.length c0_10, .slice A0_11 l0_11.length c0_11, .int .i64 a0_12, .int .i64 a0_13, .string a0_14, .slice A0_15 l0_15.length c0_15] 37 (0, 0)) (by (with_reducible repeat (first | refine blk_drewN ?_ _ | refine blk_drew ?_ | refine blk_alloc ?_ _)); exact BK105.out) hb); have n1_ := Aside0.mk (below_step (by repeat (first | (with_reducible first | exact HB.out | apply below_alloc | apply pw_below_drewN | apply below_drew1 | refine below_set ?_ GE105.out) | exact HB.out)) hb); clear BK105; clear HB; have BK105 := n0_; have HB := n1_; clear n0_ n1_; (try clear hb); (try clear hb2); (try clear hk); (try clear hi)))
                          repeat (go_quiet (first | (go_at_call 29; (with_reducible refine (agoralaw05_left.calls k4 a0_5 a0_6 a0_7 _ _ l0_8 _ _ l0_9 300 20 t110 _ ?side1 ?side2 ?side3 ?side4 A29.out).mono ?_); (case side1 => repeat (first | exact (Kd.C_below HR0_8.out HB.out) | (with_reducible refine Kd.C_alloc ?_ _) | (with_reducible refine Kd.C_drewN ?_ _) | (with_reducible refine Kd.C_drew ?_))); (case side2 => exact HC0_8.out); (case side3 => repeat (first | exact (Kd.C_below HR0_9.out HB.out) | (with_reducible refine Kd.C_alloc ?_ _) | (with_reducible refine Kd.C_drewN ?_ _) | (with_reducible refine Kd.C_drew ?_))); (case side4 => exact HC0_9.out); rintro e w31 ⟨rfl, hb⟩; have n0_ := Aside0.mk (blk_below (g := gb105) (o := .cells #[.string a0_0, .string a0_1, .string a0_2, .bool a0_3, .string a0_4, .int .i64 a0_5, .int .i64 a0_6, .string a0_7, .slice A0_8 l0_8.length c0_8, .slice A0_9 l0_9.length c0_9, .slice A0_10 l0_10.length c0_10, .slice A0_11 l0_11.length c0_11, .int .i64 a0_12, .int .i64 a0_13, .string a0_14, .slice A0_15 l0_15.length c0_15] 37 (0, 0)) (by (with_reducible repeat (first | refine blk_drewN ?_ _ | refine blk_drew ?_ | refine blk_alloc ?_ _)); exact BK105.out) hb); have n1_ := Aside0.mk (below_step (by repeat (first | (with_reducible first | exact HB.out | apply below_alloc | apply pw_below_drewN | apply below_drew1 | refine below_set ?_ GE105.out) | exact HB.out)) hb); clear BK105; clear HB; have BK105 := n0_; have HB := n1_; clear n0_ n1_; (try clear hb); (try clear hb2); (try clear hk); (try clear hi))); try go_wp2_with (first | (go_at_call 29; (with_reducible refine (agoralaw05_left.calls k4 a0_5 a0_6 a0_7 _ _ l0_8 _ _ l0_9 300 20 t110 _ ?side1 ?side2 ?side3 ?side4 A29.out).mono ?_); (case side1 => repeat (first | exact (Kd.C_below HR0_8.out HB.out) | (with_reducible refine Kd.C_alloc ?_ _) | (with_reducible refine Kd.C_drewN ?_ _) | (with_reducible refine Kd.C_drew ?_))); (case side2 => exact HC0_8.out); (case side3 => repeat (first | exact (Kd.C_below HR0_9.out HB.out) | (with_reducible refine Kd.C_alloc ?_ _) | (with_reducible refine Kd.C_drewN ?_ _) | (with_reducible refine Kd.C_drew ?_))); (case side4 => exact HC0_9.out); rintro e w31 ⟨rfl, hb⟩; have n0_ := Aside0.mk (blk_below (g := gb105) (o := .cells #[.string a0_0, .string a0_1, .string a0_2, .bool a0_3, .string a0_4, .int .i64 a0_5, .int .i64 a0_6, .string a0_7, .slice A0_8 l0_8.length c0_8, .slice A0_9 l0_9.length c0_9, .slice A0_10 l0_10.length c0_10, .slice A0_11 l0_11.length c0_11, .int .i64 a0_12, .int .i64 a0_13, .string a0_14, .slice A0_15 l0_15.length c0_15] 37 (0, 0)) (by (with_reducible repeat (first | refine blk_drewN ?_ _ | refine blk_drew ?_ | refine blk_alloc ?_ _)); exact BK105.out) hb); have n1_ := Aside0.mk (below_step (by repeat (first | (with_reducible first | exact HB.out | apply below_alloc | apply pw_below_drewN | apply below_drew1 | refine below_set ?_ GE105.out) | exact HB.out)) hb); clear BK105; clear HB; have BK105 := n0_; have HB := n1_; clear n0_ n1_; (try clear hb); (try clear hb2); (try clear hk); (try clear hi))))
                          go_ret
                          exact ⟨by first | rfl | (simp [errW_none, errW_some] <;> rfl) | (simp [*, errW_none, errW_some] <;> rfl), by repeat (first | (with_reducible first | exact HB.out | apply below_alloc | apply pw_below_drewN | apply below_drew1 | refine below_set ?_ GE105.out) | exact HB.out)⟩
end Go.Proofs.YtcklgalgljmljaaDoor.Q
