/- HandCounts: a text of this claim's proof, as printed or written, without what the claim does not use. -/
import Derived.WalkKit
import Derived.WalkSpells
import Derived.Lib.Hide
import Derived.BigQuiet
import Derived.Deep.QuietTactic
import Derived.Test.YtodhmbnfliajiaaDoorHandAwake
import Derived.Test.YtodhmbnfliajiaaDoorPureCounts
import Derived.Test.YtodhmbnfliajiaaDoorQx0
import Derived.Test.YtodhmbnfliajiaaDoorQx2
import Derived.Test.YtodhmbnfliajiaaDoorJ5
namespace Go.Proofs.YtodhmbnfliajiaaDoor.Q
open Go.RowKit Go.Proofs.YtodhmbnfliajiaaDoorW.PrintWords Go.Proofs.YtodhmbnfliajiaaDoorW.PrintLast Go.Proofs.YtodhmbnfliajiaaDoorW.PrintMore
set_option linter.unusedVariables false
set_option linter.unusedSimpArgs false
def evZ : EvV := ⟨⟨#[]⟩, ⟨#[]⟩, ⟨#[]⟩, false, ⟨#[]⟩, 0, 0, ⟨#[]⟩, none, 0, [], none, 0, [], none, 0, [], none, 0, [], 0, 0, ⟨#[]⟩, none, 0, []⟩
def scN (n : Int) : Array Value := scV evZ ⟨#[]⟩ ⟨#[]⟩ n 0
theorem small_z : evSmall evZ = true := by kernel_rfl
theorem ok_z (w : World) : evZ.Ok w := ⟨C_nil _ _ _, Nat.le_refl _, C_nil _ _ _, Nat.le_refl _⟩
theorem cnt_holds (p : ByteArray) (n : Int) (hp : p.size ≤ 60) (W : World) (hT : Tabs W) :
    Calls Tryd.prog 7 #[.agg #[.string ⟨#[114, 111, 111, 109, 95, 109, 101, 109, 98, 101, 114, 95, 99, 111, 117, 110, 116]⟩, .string ⟨#[]⟩, .string p, .int .i64 0], .agg (scN n)] W fun e w' => e = .returned (.bool (standsB p n)) ∧ Below W.heap.size W w' := by
  have h := holds_calls ⟨#[114, 111, 111, 109, 95, 109, 101, 109, 98, 101, 114, 95, 99, 111, 117, 110, 116]⟩ ⟨#[]⟩ p 0 evZ ⟨#[]⟩ ⟨#[]⟩ n 0 W hT (by omega) (by decide) (evSmall_field evZ small_z) (evSmall_keys evZ small_z) (ok_z W)
  have e : holdsB ⟨#[114, 111, 111, 109, 95, 109, 101, 109, 98, 101, 114, 95, 99, 111, 117, 110, 116]⟩ ⟨#[]⟩ p 0 evZ ⟨#[]⟩ n 0 = standsB p n := by
    unfold holdsB
    rw [if_neg (by rw [ByteArray.toList_eq]; decide), if_neg (by rw [ByteArray.toList_eq]; decide), if_neg (by rw [ByteArray.toList_eq]; decide), if_pos (by rw [ByteArray.toList_eq])]
  rw [e] at h
  exact h
set_option maxRecDepth 100000 in
set_option maxHeartbeats 4000000 in
theorem count_calls (p : ByteArray) (n : Int) (hp : p.size ≤ 60) (w : World) (hT : Tabs w) :
    Calls Tryd.prog 5 #[.string p, .agg (scN n)] w fun e w' => e = .returned (.bool (standsB p n)) ∧ Below w.heap.size w w' := by
  have HH := Lib.hid (fun W (h : Below w.heap.size w W) => cnt_holds p n hp W (hT.below h))
  have hu := Tryd.underlying31
  clear hT hp
  generalize standsB p n = r at *
  go_enter Tryd.func5, Tryd.ntmps5
  go_wp2_with (first | ((with_reducible refine gate_dst (N := 3) rfl ?_); refine box_event ?hg (N := 3) ?hd (cs := scN n) (t := 31) ?hr ?_; (case hd => rfl); (case hg => rfl); (case hr => first | (go_simp; done) | (go_simp; rfl)); intro g3 hg3 w3 hk3 hb3; have HK3 := Lib.hid hk3; have HB3 := Lib.hid hb3; clear hk3 hb3 hg3) | ((with_reducible refine gate_dst (N := 7) rfl ?_); refine wpList_load_row rfl 31 (.tmp 3) rfl g3 rfl 31 (scN n) (0, 0) _ HK3.out hu rfl (by kernel_rfl) ?_))
  refine (HH.out _ HB3.out).mono ?_
  rintro e w4 ⟨rfl, hb4⟩
  have HB4 := Lib.hid (below_step HB3.out hb4)
  clear HH HB3 HK3 hb4
  go_wp2
  go_ret
  exact ⟨rfl, HB4.out⟩
structure Cn (w : World) (t : ByteArray) (n : Int) (a b c d e f g h : Bool) : Prop where
  c1 : ∀ W, Below w.heap.size w W → Calls Tryd.prog 5 #[.string (⟨#[60]⟩ ++ t), .agg (scN n)] W fun e' w' => e' = .returned (.bool a) ∧ Below W.heap.size W w'
  c2 : ∀ W, Below w.heap.size w W → Calls Tryd.prog 5 #[.string t, .agg (scN n)] W fun e' w' => e' = .returned (.bool b) ∧ Below W.heap.size W w'
  c3 : ∀ W, Below w.heap.size w W → Calls Tryd.prog 5 #[.string (⟨#[61, 61]⟩ ++ t), .agg (scN n)] W fun e' w' => e' = .returned (.bool c) ∧ Below W.heap.size W w'
  c4 : ∀ W, Below w.heap.size w W → Calls Tryd.prog 5 #[.string (⟨#[62]⟩ ++ t), .agg (scN n)] W fun e' w' => e' = .returned (.bool d) ∧ Below W.heap.size W w'
  c5 : ∀ W, Below w.heap.size w W → Calls Tryd.prog 5 #[.string (⟨#[60, 61]⟩ ++ t), .agg (scN n)] W fun e' w' => e' = .returned (.bool e) ∧ Below W.heap.size W w'
  c6 : ∀ W, Below w.heap.size w W → Calls Tryd.prog 5 #[.string (⟨#[62, 61]⟩ ++ t), .agg (scN n)] W fun e' w' => e' = .returned (.bool f) ∧ Below W.heap.size W w'
  c7 : ∀ W, Below w.heap.size w W → Calls Tryd.prog 5 #[.string (⟨#[61]⟩ ++ t), .agg (scN n)] W fun e' w' => e' = .returned (.bool g) ∧ Below W.heap.size W w'
  c8 : ∀ W, Below w.heap.size w W → Calls Tryd.prog 5 #[.string (⟨#[33]⟩ ++ t), .agg (scN n)] W fun e' w' => e' = .returned (.bool h) ∧ Below W.heap.size W w'
theorem Cn.mk' (w : World) (hT : Tabs w) (t : ByteArray) (ht : t.size ≤ 9) (n : Int) : Cn w t n (standsB (⟨#[60]⟩ ++ t) n) (standsB t n) (standsB (⟨#[61, 61]⟩ ++ t) n) (standsB (⟨#[62]⟩ ++ t) n) (standsB (⟨#[60, 61]⟩ ++ t) n) (standsB (⟨#[62, 61]⟩ ++ t) n) (standsB (⟨#[61]⟩ ++ t) n) (standsB (⟨#[33]⟩ ++ t) n) := by
  have hs : ∀ a : ByteArray, a.size ≤ 2 → (a ++ t).size ≤ 60 := fun a ha => by rw [ByteArray.size_append]; omega
  exact ⟨fun W h => count_calls _ n (hs _ (by decide)) W (hT.below h), fun W h => count_calls _ n (by omega) W (hT.below h), fun W h => count_calls _ n (hs _ (by decide)) W (hT.below h), fun W h => count_calls _ n (hs _ (by decide)) W (hT.below h), fun W h => count_calls _ n (hs _ (by decide)) W (hT.below h), fun W h => count_calls _ n (hs _ (by decide)) W (hT.below h), fun W h => count_calls _ n (hs _ (by decide)) W (hT.below h), fun W h => count_calls _ n (hs _ (by decide)) W (hT.below h)⟩
set_option maxRecDepth 100000 in
set_option maxHeartbeats 8000000 in
theorem counts_some (n m : Int) (t : ByteArray) (K : Nat) (hK : agoraref01_Digits.f K m = some t) (ht : t.size ≤ 9) (h0 : 0 ≤ m) (h9 : m ≤ 999999999) (w : World) (hT : Tabs w) (b1 b2 b3 : Bool) (e1 : decide (n < m) = b1) (e2 : (n == m) = b2) (e3 : decide (m < n) = b3)
    (hC : ∀ W, Below w.heap.size w W → Cn W t n b1 b2 b2 b3 (!b3) (!b1) false false) :
    Calls Tryd.prog 3 #[.int .i64 n, .int .i64 m] w fun e w' => e = .returned (.bool true) ∧ Below w.heap.size w w' := by
  have HD := Lib.hid (agoraref01_Digits.calls K m t w hK)
  have HAw := Lib.hid (fun W (h : Below w.heap.size w W) => awake_calls W (hT.below h))
  have HC0 := Lib.hid hC
  have hu := Tryd.underlying31
  have s1 : (9223372036854775807 < 1 + t.size) = False := eq_false (by omega)
  have s2 : (9223372036854775807 < 2 + t.size) = False := eq_false (by omega)
  have s3 : (1 + t.size ≤ 9223372036854775807) = True := eq_true (by omega)
  have s4 : (2 + t.size ≤ 9223372036854775807) = True := eq_true (by omega)
  have s5 : decide (1 + t.size ≤ 9223372036854775807) = true := decide_eq_true (by omega)
  have s6 : decide (2 + t.size ≤ 9223372036854775807) = true := decide_eq_true (by omega)
  clear hK hT hC ht
  have d1 : decide (m < 0) = false := decide_eq_false (by omega)
  have d2 : decide ((999999999 : Int) < m) = false := decide_eq_false (by omega)
  clear h0 h9
  cases b1 <;> cases b2 <;> cases b3
  all_goals
    go_enter Tryd.func3, Tryd.ntmps3
    simp only [List.append_eq, List.cons_append, List.nil_append]
    go_wp2_with (first | (go_at_call 4; refine HD.out.mono ?_; rintro e w2 ⟨rfl, hb2⟩; have HBd := Lib.hid hb2; have HC := Lib.hid (fun W h => HC0.out W (below_step hb2 h)); clear hb2 HC0 HD) | ((with_reducible refine gate_dst (N := 6) rfl ?_); refine box_event ?hg (N := 6) ?hd (cs := scN 0) (t := 31) ?hr ?_; (case hd => rfl); (case hg => rfl); (case hr => first | (go_simp; done) | (go_simp; rfl)); intro g6 hg6 w6 hk6 hb6; (have hn6 : w2.heap.size ≤ g6 := Nat.le_of_eq hg6.symm); have HN6 := Lib.hid hn6; have HK6 := Lib.hid hk6; have HB6 := Lib.hid hb6; clear hk6 hb6 hg6 hn6) | ((with_reducible refine gate_store (t := 31) (p := 6) rfl ?_); refine wpList_store_row rfl 31 (.tmp 6) (.tmp 19) rfl g6 (scN n) rfl rfl 31 _ HK6.out (by kernel_rfl) rfl (by simp [scN, scV, Value.oneCell']) ?_; have hk1 := setRow_heap _ _ _ (scN n) _ _ HK6.out; have hb1 := below_setRow HB6.out HN6.out (scN n); revert hk1 hb1; generalize w6.setRow g6 (scN n) = w7; intro hk1 hb1; have HK1 := Lib.hid hk1; have HB1 := Lib.hid hb1; clear hk1 hb1 HK6 HB6) | ((with_reducible refine gate_dst (N := 31) rfl ?_); refine wpList_load_row rfl 31 (.tmp 6) rfl g6 rfl 31 (scN n) (0, 0) _ HK1.out hu rfl (by kernel_rfl) ?_) | (go_at_call 5; refine ((HC.out _ HB1.out).c1 _ (Below.refl _ _)).mono ?_; rintro e w11 ⟨rfl, hb11⟩; have HB2 := Lib.hid (below_step HB1.out hb11); have HK2 := Lib.hid (blk_below HK1.out hb11); clear hb11 HB1 HK1) | ((with_reducible refine gate_dst (N := 37) rfl ?_); (refine gate_guard (by rfl) ?_; dsimp only); refine wpList_load_row rfl 31 (.tmp 6) rfl g6 rfl 31 (scN n) (0, 0) _ HK2.out hu rfl (by kernel_rfl) ?_) | (go_at_call 5; refine ((HC.out _ HB2.out).c2 _ (Below.refl _ _)).mono ?_; rintro e w12 ⟨rfl, hb12⟩; have HB3 := Lib.hid (below_step HB2.out hb12); have HK3 := Lib.hid (blk_below HK2.out hb12); clear hb12 HB2 HK2) | ((with_reducible refine gate_dst (N := 45) rfl ?_); (refine gate_guard (by rfl) ?_; dsimp only); refine wpList_load_row rfl 31 (.tmp 6) rfl g6 rfl 31 (scN n) (0, 0) _ HK3.out hu rfl (by kernel_rfl) ?_) | (go_at_call 5; refine ((HC.out _ HB3.out).c3 _ (Below.refl _ _)).mono ?_; rintro e w13 ⟨rfl, hb13⟩; have HB4 := Lib.hid (below_step HB3.out hb13); have HK4 := Lib.hid (blk_below HK3.out hb13); clear hb13 HB3 HK3) | ((with_reducible refine gate_dst (N := 53) rfl ?_); (refine gate_guard (by rfl) ?_; dsimp only); refine wpList_load_row rfl 31 (.tmp 6) rfl g6 rfl 31 (scN n) (0, 0) _ HK4.out hu rfl (by kernel_rfl) ?_) | (go_at_call 5; refine ((HC.out _ HB4.out).c4 _ (Below.refl _ _)).mono ?_; rintro e w14 ⟨rfl, hb14⟩; have HB5 := Lib.hid (below_step HB4.out hb14); have HK5 := Lib.hid (blk_below HK4.out hb14); clear hb14 HB4 HK4) | ((with_reducible refine gate_dst (N := 61) rfl ?_); (refine gate_guard (by rfl) ?_; dsimp only); refine wpList_load_row rfl 31 (.tmp 6) rfl g6 rfl 31 (scN n) (0, 0) _ HK5.out hu rfl (by kernel_rfl) ?_) | (go_at_call 5; refine ((HC.out _ HB5.out).c5 _ (Below.refl _ _)).mono ?_; rintro e w15 ⟨rfl, hb15⟩; have HB6 := Lib.hid (below_step HB5.out hb15); have HK6 := Lib.hid (blk_below HK5.out hb15); clear hb15 HB5 HK5) | ((with_reducible refine gate_dst (N := 70) rfl ?_); (refine gate_guard (by rfl) ?_; dsimp only); refine wpList_load_row rfl 31 (.tmp 6) rfl g6 rfl 31 (scN n) (0, 0) _ HK6.out hu rfl (by kernel_rfl) ?_) | (go_at_call 5; refine ((HC.out _ HB6.out).c6 _ (Below.refl _ _)).mono ?_; rintro e w16 ⟨rfl, hb16⟩; have HB7 := Lib.hid (below_step HB6.out hb16); have HK7 := Lib.hid (blk_below HK6.out hb16); clear hb16 HB6 HK6) | ((with_reducible refine gate_dst (N := 79) rfl ?_); (refine gate_guard (by rfl) ?_; dsimp only); refine wpList_load_row rfl 31 (.tmp 6) rfl g6 rfl 31 (scN n) (0, 0) _ HK7.out hu rfl (by kernel_rfl) ?_) | (go_at_call 5; refine ((HC.out _ HB7.out).c7 _ (Below.refl _ _)).mono ?_; rintro e w17 ⟨rfl, hb17⟩; have HB8 := Lib.hid (below_step HB7.out hb17); have HK8 := Lib.hid (blk_below HK7.out hb17); clear hb17 HB7 HK7) | ((with_reducible refine gate_dst (N := 86) rfl ?_); (refine gate_guard (by rfl) ?_; dsimp only); refine wpList_load_row rfl 31 (.tmp 6) rfl g6 rfl 31 (scN n) (0, 0) _ HK8.out hu rfl (by kernel_rfl) ?_) | (go_at_call 5; refine ((HC.out _ HB8.out).c8 _ (Below.refl _ _)).mono ?_; rintro e w18 ⟨rfl, hb18⟩; have HB9 := Lib.hid (below_step HB8.out hb18); have HK9 := Lib.hid (blk_below HK8.out hb18); clear hb18 HB8 HK8) | (go_at_call 6; refine (HAw.out _ (below_step HBd.out HB9.out)).mono ?_; rintro e w19 ⟨rfl, hb19⟩; have HB10 := Lib.hid (below_step (below_step HBd.out HB9.out) hb19); clear hb19))
    go_ret
    exact ⟨rfl, HB10.out⟩
set_option maxRecDepth 100000 in
set_option maxHeartbeats 4000000 in
theorem pushCounts_calls (n m : Int) (w : World) (hT : Tabs w) :
    Calls Tryd.prog 3 #[.int .i64 n, .int .i64 m] w fun e w' => e = .returned (.bool true) ∧ Below w.heap.size w w' := by
  by_cases h0 : m < 0
  · have d1 : decide (m < 0) = true := decide_eq_true h0
    clear h0
    go_enter Tryd.func3, Tryd.ntmps3
    go_wp2
    go_ret
    exact ⟨rfl, Below.refl _ _⟩
  · by_cases h9 : 999999999 < m
    · have d1 : decide (m < 0) = false := decide_eq_false h0
      have d2 : decide ((999999999 : Int) < m) = true := decide_eq_true h9
      clear h0 h9
      go_enter Tryd.func3, Tryd.ntmps3
      go_wp2
      go_ret
      exact ⟨rfl, Below.refl _ _⟩
    · obtain ⟨u, hu⟩ := Int.eq_ofNat_of_zero_le (show 0 ≤ m by omega)
      subst hu
      obtain ⟨K, t, hK, ht⟩ := digits_c u (by omega)
      have hz := dd_size u (by omega) t ht
      refine counts_some n u t K hK hz (by omega) (by omega) w hT _ _ _ rfl rfl rfl (fun W hW => ?_)
      have h := Cn.mk' W (hT.below hW) t hz n
      obtain ⟨q1, q2, q3, q4, q5, q6, q7, q8⟩ := seven u (by omega) n t ht
      have e2 : (n == (u : Int)) = decide (n = (u : Int)) := by
        rw [Bool.eq_iff_iff, decide_eq_true_eq, beq_iff_eq]
      have e5 : (!decide ((u : Int) < n)) = decide (n ≤ (u : Int)) := by
        rw [Bool.eq_iff_iff]; simp
      have e6 : (!decide (n < (u : Int))) = decide ((u : Int) ≤ n) := by
        rw [Bool.eq_iff_iff]; simp
      rw [e2, e5, e6]
      rw [q1, q2, q3, q4, q5, q6, q7, q8] at h
      exact h
end Go.Proofs.YtodhmbnfliajiaaDoor.Q
