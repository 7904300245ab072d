/- Merged out of: Vx2, PureVisibleRanks. -/
import Derived.Test.YtifcganfcjildaaGreatDoorJ5
import Derived.Test.YtifcganfcjildaaGreatDoorVx1
import Derived.Test.YtifcganfcjildaaGreatDoorJ1
import Derived.OpenShut
-- WRITTEN by a program of this session (myprint.py) over the seat's translation. Not trusted: Lean checks it.
namespace Go.Proofs.YtifcganfcjildaaGreatDoor.V
open Go.RowKit Go.Proofs.YtifcganfcjildaaGreatDoorW.PrintWords Go.Proofs.YtifcganfcjildaaGreatDoorW.PrintLast Go.Proofs.YtifcganfcjildaaGreatDoorW.PrintMore
attribute [local go_sem] max2_int min2_int max_two min_two max_three min_three max_four min_four   -- for this text's walks alone
set_option linter.unusedVariables false
set_option linter.unusedSimpArgs false

/-! ### agoralaw33_VisibleRanks: function 7 -/
def agoralaw33_VisibleRanks.f (k : Nat) (a0 : ByteArray) : Option (Bool) := if (a0.size : Int) > 300 then (some true) else ((visible_Rank.f k a0).bind fun t106 => ((agoraref33_Rank.f a0).bind fun t107 => (if t106 = t107 then ((agoralaw33_awake.f k).bind fun t108 => (some t108)) else (some false))))
theorem agoralaw33_VisibleRanks.mono : ∀ a0 k, LeO (agoralaw33_VisibleRanks.f k a0) (agoralaw33_VisibleRanks.f (k + 1) a0) := by
  intro a0 k
  unfold agoralaw33_VisibleRanks.f
  repeat' first
      | (with_reducible exact agoralaw33_awake.mono _)
      | (with_reducible exact visible_Rank.mono _ _)
      | (with_reducible exact LeO.refl _)
      | (with_reducible exact LeO.none _)
      | (with_reducible refine LeO.ite ?_ ?_)
      | (with_reducible refine LeO.bind ?_ (fun _ => ?_))
      | exact agoralaw33_awake.mono _
      | exact visible_Rank.mono _ _
      | exact LeO.none _
      | refine LeO.ite ?_ ?_
      | refine LeO.bind ?_ (fun _ => ?_)
set_option maxHeartbeats 8000000 in
set_option maxRecDepth 100000 in
theorem agoralaw33_VisibleRanks.calls (k : Nat) (a0 : ByteArray) (r : Bool) (w : World) (h : agoralaw33_VisibleRanks.f k a0 = some r) :
    Calls Tryz.prog 7 #[.string a0] w fun e w' => e = .returned (.bool r) ∧ Below w.heap.size w w' := by
  have HB := Aside0.mk (Below.refl w.heap.size w)
  have H : (if (a0.size : Int) > 300 then (some true) else ((visible_Rank.f k a0).bind fun t106 => ((agoraref33_Rank.f a0).bind fun t107 => (if t106 = t107 then ((agoralaw33_awake.f k).bind fun t108 => (some t108)) else (some false))))) = some r := h
  clear h
  by_cases c2 : (a0.size : Int) > 300
  · rw [if_pos c2] at H
    have c2b0 : decide (300 < (a0.size : Int)) = true := decide_eq_true c2
    have c2b1 : decide (300 < a0.size) = true := decide_eq_true (by omega)
    clear c2
    obtain rfl := Option.some.inj H
    go_enter Tryz.func7, Tryz.ntmps7
    go_wp2
    go_ret
    exact ⟨by first | rfl | (simp [errW_none, errW_some] <;> rfl) | (simp [*, errW_none, errW_some] <;> rfl), by repeat (first | (with_reducible first | exact HB.out | apply below_alloc | apply pw_below_drewN | apply below_drew1) | exact HB.out)⟩
  · rw [if_neg c2] at H
    have c2b0 : decide (300 < (a0.size : Int)) = false := decide_eq_false c2
    have c2b1 : decide (300 < a0.size) = false := decide_eq_false (by omega)
    clear c2
    replace H := Option.bind_eq_some_iff.mp H
    obtain ⟨t106, A30, H⟩ := H
    replace H : ((agoraref33_Rank.f a0).bind fun t107 => (if t106 = t107 then ((agoralaw33_awake.f k).bind fun t108 => (some t108)) else (some false))) = some r := H
    have A3 := Aside0.mk A30
    clear A30
    replace H := Option.bind_eq_some_iff.mp H
    obtain ⟨t107, A40, H⟩ := H
    replace H : (if t106 = t107 then ((agoralaw33_awake.f k).bind fun t108 => (some t108)) else (some false)) = some r := H
    have A4 := Aside0.mk A40
    clear A40
    by_cases c5 : t106 = t107
    · rw [if_pos c5] at H
      have c5b0 : (t106 == t107) = true := beq_iff_eq.mpr c5
      have c5b1 : (t106 != t107) = false := bne_eq_false_iff_eq.mpr c5
      clear c5
      replace H := Option.bind_eq_some_iff.mp H
      obtain ⟨t108, A60, H⟩ := H
      replace H : (some t108) = some r := H
      have A6 := Aside0.mk A60
      clear A60
      obtain rfl := Option.some.inj H
      go_enter Tryz.func7, Tryz.ntmps7
      go_wp2_with (first | ((with_reducible refine gate_callee (f := 34) rfl ?_); refine goesL_ (some 7) rfl rfl Tryz.func34 (by kernel_rfl) rfl #[.string a0] rfl (by (try simp only [List.map_toArray, List.map_cons, List.map_nil]); first | done | rfl | (simp only [List.length_drop, List.length_take]; rfl)) ?_; (with_reducible refine (visible_Rank.calls k a0 t106 _ A3.out).mono ?_); rintro e w7 ⟨rfl, hb⟩; refine ⟨_, rfl, ?_⟩; have n0_ := Aside0.mk (below_step (by repeat (first | (with_reducible first | exact HB.out | apply below_alloc | apply pw_below_drewN | apply below_drew1) | exact HB.out)) hb); clear HB; have HB := n0_; clear n0_; (try clear hb); (try clear hb2); (try clear hk); (try clear hi)) | ((with_reducible refine gate_callee (f := 35) rfl ?_); refine goesL_ (some 9) rfl rfl Tryz.func35 (by kernel_rfl) rfl #[.string a0] rfl (by (try simp only [List.map_toArray, List.map_cons, List.map_nil]); first | done | rfl | (simp only [List.length_drop, List.length_take]; rfl)) ?_; (with_reducible refine (agoraref33_Rank.calls a0 t107 _ A4.out).mono ?_); rintro e w' ⟨rfl, ⟨nd, rfl⟩⟩; refine ⟨_, rfl, ?_⟩) | (go_at_call 36; (with_reducible refine (agoralaw33_awake.calls k  t108 _ A6.out).mono ?_); rintro e w8 ⟨rfl, hb⟩; have n0_ := Aside0.mk (below_step (by repeat (first | (with_reducible first | exact HB.out | apply below_alloc | apply pw_below_drewN | apply below_drew1) | exact HB.out)) hb); clear HB; have HB := n0_; clear n0_; (try clear hb); (try clear hb2); (try clear hk); (try clear hi)))
      go_ret
      exact ⟨by first | rfl | (simp [errW_none, errW_some] <;> rfl) | (simp [*, errW_none, errW_some] <;> rfl), by repeat (first | (with_reducible first | exact HB.out | apply below_alloc | apply pw_below_drewN | apply below_drew1) | exact HB.out)⟩
    · rw [if_neg c5] at H
      have c5b0 : (t106 == t107) = false := beq_eq_false_iff_ne.mpr c5
      have c5b1 : (t106 != t107) = true := bne_iff_ne.mpr c5
      obtain rfl := Option.some.inj H
      go_enter Tryz.func7, Tryz.ntmps7
      go_wp2_with (first | ((with_reducible refine gate_callee (f := 34) rfl ?_); refine goesL_ (some 7) rfl rfl Tryz.func34 (by kernel_rfl) rfl #[.string a0] rfl (by (try simp only [List.map_toArray, List.map_cons, List.map_nil]); first | done | rfl | (simp only [List.length_drop, List.length_take]; rfl)) ?_; (with_reducible refine (visible_Rank.calls k a0 t106 _ A3.out).mono ?_); rintro e w9 ⟨rfl, hb⟩; refine ⟨_, rfl, ?_⟩; have n0_ := Aside0.mk (below_step (by repeat (first | (with_reducible first | exact HB.out | apply below_alloc | apply pw_below_drewN | apply below_drew1) | exact HB.out)) hb); clear HB; have HB := n0_; clear n0_; (try clear hb); (try clear hb2); (try clear hk); (try clear hi)) | ((with_reducible refine gate_callee (f := 35) rfl ?_); refine goesL_ (some 9) rfl rfl Tryz.func35 (by kernel_rfl) rfl #[.string a0] rfl (by (try simp only [List.map_toArray, List.map_cons, List.map_nil]); first | done | rfl | (simp only [List.length_drop, List.length_take]; rfl)) ?_; (with_reducible refine (agoraref33_Rank.calls a0 t107 _ A4.out).mono ?_); rintro e w' ⟨rfl, ⟨nd, rfl⟩⟩; refine ⟨_, rfl, ?_⟩))
      go_ret
      exact ⟨by first | rfl | (simp [errW_none, errW_some] <;> rfl) | (simp [*, errW_none, errW_some] <;> rfl), by repeat (first | (with_reducible first | exact HB.out | apply below_alloc | apply pw_below_drewN | apply below_drew1) | exact HB.out)⟩

/-- THE ONE PURE STATEMENT of agoralaw33_VisibleRanks: yours. -/
def agoralaw33_VisibleRanks.Pure : Prop := ∀ (a0 : ByteArray), a0.size ≤ 140737488351232 → ∃ k, agoralaw33_VisibleRanks.f k a0 = some true
theorem agoralaw33_VisibleRanks.walk (P : agoralaw33_VisibleRanks.Pure) (a0 : ByteArray) (w : World) (w0 : a0.size ≤ 140737488351232) :
    Calls Tryz.prog 7 #[.string a0] w fun e w' => e = .returned (.bool true) ∧ Below w.heap.size w w' := by
  obtain ⟨k, h⟩ := P a0 w0
  refine (agoralaw33_VisibleRanks.calls k a0 true w h).mono ?_
  rintro e w' ⟨rfl, hd⟩
  exact ⟨rfl, hd⟩

end Go.Proofs.YtifcganfcjildaaGreatDoor.V

/- The plain law of VisibleRanks: the place of a rule among four is what the document says of it. -/
namespace Go.Proofs.YtifcganfcjildaaGreatDoor.Pure
open Go.RowKit Go.Proofs.YtifcganfcjildaaGreatDoor.V Go.Proofs.YtifcganfcjildaaGreatDoorW.PrintWords Go.Proofs.YtifcganfcjildaaGreatDoorW.PrintLast Go.Proofs.YtifcganfcjildaaGreatDoorW.PrintMore
set_option linter.unusedVariables false

def rules : List ByteArray := [(⟨#[106, 111, 105, 110, 101, 100]⟩ : ByteArray), (⟨#[105, 110, 118, 105, 116, 101, 100]⟩ : ByteArray), (⟨#[115, 104, 97, 114, 101, 100]⟩ : ByteArray), (⟨#[119, 111, 114, 108, 100, 95, 114, 101, 97, 100, 97, 98, 108, 101]⟩ : ByteArray)]
theorem rule0 : (rdOf ByteArray.empty rules 0).toList = [106, 111, 105, 110, 101, 100] := by rw [ByteArray.toList_eq]; rfl
theorem rule1 : (rdOf ByteArray.empty rules 1).toList = [105, 110, 118, 105, 116, 101, 100] := by rw [ByteArray.toList_eq]; rfl
theorem rule2 : (rdOf ByteArray.empty rules 2).toList = [115, 104, 97, 114, 101, 100] := by rw [ByteArray.toList_eq]; rfl
theorem rule3 : (rdOf ByteArray.empty rules 3).toList = [119, 111, 114, 108, 100, 95, 114, 101, 97, 100, 97, 98, 108, 101] := by rw [ByteArray.toList_eq]; rfl
theorem idx_step (k : Nat) (a : ByteArray) (i j : Int) (h0 : 0 ≤ i) (h4 : i < 4) (hj : wrap64 (i + 1) = j) :
    slices_Index_string_string.l0 (k + 1) rules a 4 i = if a.toList = (rdOf ByteArray.empty rules i).toList then some i else slices_Index_string_string.l0 k rules a 4 j := by
  rw [slices_Index_string_string.l0, if_pos h4, if_pos h0, if_pos (show i < ((rules.length : Nat) : Int) from h4), hj]
theorem rank_f (a : ByteArray) : visible_Rank.f 6 a = agoraref33_Rank.f a := by
  show (slices_Index_string_string.l0 6 rules a 4 0).bind (fun t => some t) = agoraref33_Rank.f a
  rw [idx_step 5 a 0 1 (by decide) (by decide) (by unfold wrap64; omega), idx_step 4 a 1 2 (by decide) (by decide) (by unfold wrap64; omega), idx_step 3 a 2 3 (by decide) (by decide) (by unfold wrap64; omega), idx_step 2 a 3 4 (by decide) (by decide) (by unfold wrap64; omega), rule0, rule1, rule2, rule3,
    slices_Index_string_string.l0, if_neg (show ¬ ((4 : Int) < 4) by decide)]
  unfold agoraref33_Rank.f
  generalize a.toList = l
  by_cases h0 : l = [106, 111, 105, 110, 101, 100]
  · subst h0; rfl
  rw [if_neg h0]
  by_cases h1 : l = [105, 110, 118, 105, 116, 101, 100]
  · subst h1; rfl
  rw [if_neg h1]
  by_cases h2 : l = [115, 104, 97, 114, 101, 100]
  · subst h2; rfl
  rw [if_neg h2]
  by_cases h3 : l = [119, 111, 114, 108, 100, 95, 114, 101, 97, 100, 97, 98, 108, 101]
  · subst h3; rfl
  rw [if_neg h3, if_neg h3, if_neg h2, if_neg h1, if_neg h0]
  rfl
/-- The plain law. -/
theorem VisibleRanks (a0 : ByteArray) : ∃ k, agoralaw33_VisibleRanks.f k a0 = some true := by
  refine ⟨6, ?_⟩
  unfold agoralaw33_VisibleRanks.f
  by_cases c : (a0.size : Int) > 300
  · rw [if_pos c]
  · rw [if_neg c, rank_f a0]
    obtain ⟨r, hr⟩ : ∃ r, agoraref33_Rank.f a0 = some r := by
      unfold agoraref33_Rank.f
      repeat' split
      all_goals exact ⟨_, rfl⟩
    rw [hr]
    show (if r = r then (agoralaw33_awake.f 6).bind (fun t108 => some t108) else some false) = some true
    rw [if_pos rfl]
    rfl
end Go.Proofs.YtifcganfcjildaaGreatDoor.Pure

