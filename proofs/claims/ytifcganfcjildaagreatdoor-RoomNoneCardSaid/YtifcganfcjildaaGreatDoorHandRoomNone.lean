/- HandRoomNone: a text of this claim's proof, as printed or written, without what the claim does not use. -/
import Derived.WalkKit
import Derived.WalkSpells
import Derived.Lib.Hide
import Derived.BigQuiet
import Derived.Deep.QuietTactic
import Derived.Test.YtifcganfcjildaaGreatDoorJ6
import Derived.Test.YtifcganfcjildaaGreatDoorJ18
import Derived.Test.YtifcganfcjildaaGreatDoorKx0
import Derived.Test.YtifcganfcjildaaGreatDoorJ17
namespace Go.Proofs.YtifcganfcjildaaGreatDoor.K
open Go.RowKit Go.Proofs.YtifcganfcjildaaGreatDoorW.PrintWords Go.Proofs.YtifcganfcjildaaGreatDoorW.PrintLast Go.Proofs.YtifcganfcjildaaGreatDoorW.PrintMore
set_option linter.unusedVariables false
set_option linter.unusedSimpArgs false
theorem opqs {φ : E.Map} : ∀ (l : List Value), (∀ v ∈ l, v.oneCell' = true) → E.VRs φ (List.replicate l.length .opq) l
  | [], _ => .nil
  | v :: l, h => .cons (.opq (h v (List.mem_cons_self ..))) (opqs l fun u hu => h u (List.mem_cons_of_mem _ hu))
theorem none_rest (nm : ByteArray) (x : EvV) (g : Nat) (a : Act) (w : World) (hk : KB g nm x w) (hN : a.tmps.size = 145) (hd : a.defers = []) (h3 : a.tmps.getD 3 undef = .pointer (some ⟨g, 0, none⟩)) :
    E.Leaves Tryz.prog 8 [.code E.rest14] a w fun e w' => e = .returned (.bool true) ∧ Below w.heap.size w w' := by
  have h := E.leaves_run (X := E.X14) E.X14_ok E.mixed_X E.run_none14 (w := w) (a := a) (φ := fun i => if i = 0 then some ⟨g, 0, 17⟩ else none) hN hd ?_ ?_ ?_
  · exact h
  · intro p hp
    obtain rfl := List.mem_singleton.1 hp
    refine ⟨by decide, ?_⟩
    show E.VR _ (.ptr 0 0) (a.tmps.getD 3 undef)
    rw [h3]
    exact .ptr (p := ⟨g, 0, 17⟩) rfl
  · intro i p hp
    by_cases c : i = 0
    · subst c; exact Nat.zero_lt_one
    · simp [c] at hp
  · intro i cs hi
    match i, hi with
    | 0, hi =>
      obtain rfl := Option.some.inj hi
      refine ⟨⟨g, 0, 17⟩, kvC nm x, 59, rfl, hk, rfl, Nat.le_refl _, ?_, ?_⟩
      · show E.VRs _ (List.replicate 17 .opq) (kvC nm x).toList
        exact opqs (kvC nm x).toList (by intro v hv; simp only [kvC, List.mem_cons, List.not_mem_nil, or_false] at hv; rcases hv with rfl | rfl | rfl | rfl | rfl | rfl | rfl | rfl | rfl | rfl | rfl | rfl | rfl | rfl | rfl | rfl | rfl <;> rfl)
      · intro v hv
        obtain ⟨-, rfl⟩ := List.mem_replicate.1 hv
        rfl
    | i + 1, hi => simp at hi
theorem set_row : ∀ (l : List Value) (n : Nat) (Z : Array Value), n + l.length ≤ Z.size → (l.zipIdx n).foldl (fun (cs : Array Value) p => cs.setIfInBounds p.2 p.1) Z = ⟨Z.toList.take n ++ l ++ Z.toList.drop (n + l.length)⟩
  | [], n, Z, _ => by
    obtain ⟨z⟩ := Z
    simp
  | a :: l, n, Z, h => by
    rw [List.zipIdx_cons, List.foldl_cons]
    simp only [List.length_cons] at h
    rw [set_row l (n + 1) (Z.setIfInBounds n a) (by simp only [Array.size_setIfInBounds]; omega)]
    obtain ⟨z⟩ := Z
    simp only [List.size_toArray] at h
    simp only [List.setIfInBounds_toArray, List.length_cons]
    congr 1
    rw [List.take_set, List.drop_set_of_lt (by omega), show n + 1 + l.length = n + (l.length + 1) by omega]
    rw [List.take_succ_eq_append_getElem (by omega), List.set_append_right _ _ (by rw [List.length_take]; omega)]
    simp [List.length_take, Nat.min_eq_left (show n ≤ z.length by omega)]
theorem kv_fold (cs Z : Array Value) (n : Nat) (hn : n = cs.size) (hZ : Z.size = cs.size) : Array.foldl (fun (cs : Array Value) (p : Value × Nat) => cs.setIfInBounds p.2 p.1) Z (cs.zipIdx 0) 0 n = cs := by
  subst hn
  have h := set_row cs.toList 0 Z (by simp [hZ])
  rw [← Array.toList_zipIdx] at h
  rw [show cs.size = (cs.zipIdx 0).size by simp, ← Array.foldl_toList, h]
  obtain ⟨c⟩ := cs
  simp at hZ ⊢
  omega
set_option maxRecDepth 100000 in
set_option maxHeartbeats 1000000 in
theorem roomNone_c (name nm : ByteArray) (x : EvV) (hN : Near x) (w : World) (hT : Tabs w) (hx : x.OkR w) :
    Calls Tryz.prog 8 #[.string name, .agg (kvC nm x)] w fun e w' => e = .returned (.bool true) ∧ Below w.heap.size w w' := by
  obtain ⟨b, hb, hF⟩ := few14_c nm x hN
  have HX := Lib.hid (fun W (h : Below w.heap.size w W) => hx.below h)
  have HT := Lib.hid (fun W (h : Below w.heap.size w W) => hT.below h)
  have HF := Lib.hid hF
  have hu := Tryz.underlying59
  clear hb hF hx hT
  refine E.calls_of_leaves Tryz.func8 rfl ?_
  simp only [Tryz.ntmps8, List.size_toArray, List.length_cons, List.length_nil, Nat.reduceAdd, Nat.reduceSub, Array.replicate_succ, Array.replicate_zero, List.push_toArray, List.append_toArray, List.nil_append, List.cons_append]
  refine E.leaves_seq (E.leaves_code Tryz.func8 ?_)
  go_wp2_with (((with_reducible refine gate_dst (N := 3) rfl ?_); refine box_event ?hg (N := 3) ?hd (cs := kvC nm x) (t := 59) ?hr ?_; (case hd => rfl); (case hg => rfl); (case hr => first | (go_simp; done) | (go_simp; rfl)); intro g hg w1 hk hb1))
  change E.Leaves _ _ _ _ _ _
  subst hg
  have HK := Lib.hid hk
  have HB1 := Lib.hid hb1
  clear hk hb1
  by_cases hs : 300 < name.size
  · have b1 : decide ((300 : Int) < (name.size : Int)) = true := decide_eq_true (by omega)
    clear hs
    refine E.leaves_seq (E.leaves_code Tryz.func8 ?_)
    go_wp2
    exact ⟨rfl, _, results_tmp rfl _ _ _, rfl, HB1.out⟩
  have b1 : decide ((300 : Int) < (name.size : Int)) = false := decide_eq_false (by omega)
  have HS := Lib.hid hs
  clear hs
  have hz : (kvC nm x).size = 17 := rfl
  have hfold : ∀ (Z : Array Value) (hZ : Z.size = 17), Array.foldl (fun (cs : Array Value) (p : Value × Nat) => cs.setIfInBounds p.2 p.1) Z ((kvC nm x).zipIdx 0) 0 17 = kvC nm x := fun Z hZ => kv_fold _ _ _ hz.symm (hZ.trans hz.symm)
  have HFo := Lib.hid hfold
  clear hfold
  cases b with
  | false =>
    refine E.leaves_seq (E.leaves_code Tryz.func8 ?_)
    go_wp2_with (first | ((with_reducible refine gate_dst (N := 20) rfl ?_); refine wpList_load_part (by rfl) 59 (.tmp 3) rfl w.heap.size 0 rfl 59 (kvC nm x) (kvC nm x) (0, 0) _ HK.out rfl hu rfl (by kernel_rfl) ?_) | (go_at_call 37; rw [HFo.out]; rotate_left; rfl; refine (HF.out _ w1.heap.size 1 (HX.out _ (by apply below_alloc; exact HB1.out)) (blk_new w1 _)).mono ?_; rintro e w2 ⟨rfl, hb2⟩; have HB2 := Lib.hid (show Below w.heap.size w w2 from (below_alloc HB1.out _).trans (hb2.mono (below_alloc HB1.out _).size)); have HK2 := Lib.hid (show KB w.heap.size nm x w2 from blk_below (blk_alloc HK.out _) hb2); clear hb2))
    exact ⟨rfl, _, results_tmp rfl _ _ _, rfl, HB2.out⟩
  | true =>
    refine E.leaves_seq (E.leaves_code Tryz.func8 ?_)
    go_wp2_with (first | ((with_reducible refine gate_dst (N := 20) rfl ?_); refine wpList_load_part (by rfl) 59 (.tmp 3) rfl w.heap.size 0 rfl 59 (kvC nm x) (kvC nm x) (0, 0) _ HK.out rfl hu rfl (by kernel_rfl) ?_) | (go_at_call 37; rw [HFo.out]; rotate_left; rfl; refine (HF.out _ w1.heap.size 1 (HX.out _ (by apply below_alloc; exact HB1.out)) (blk_new w1 _)).mono ?_; rintro e w2 ⟨rfl, hb2⟩; have HB2 := Lib.hid (show Below w.heap.size w w2 from (below_alloc HB1.out _).trans (hb2.mono (below_alloc HB1.out _).size)); have HK2 := Lib.hid (show KB w.heap.size nm x w2 from blk_below (blk_alloc HK.out _) hb2); clear hb2))
    change E.Leaves _ _ _ _ _ _
    clear HB1 HK HF HX b1 hz hu
    have HN := Lib.hid (new_c name (by have := HS.out; omega) w2 (HT.out _ HB2.out))
    clear HT HS
    refine E.leaves_seq (E.leaves_code Tryz.func8 ?_)
    go_wp2_with (go_at_call 21; refine HN.out.mono ?_; rintro e w3 ⟨hb3, rfl | ⟨g, h, rfl, hr⟩⟩)
    · change E.Leaves _ _ _ _ _ _
      have HB3 := Lib.hid (show Below w.heap.size w w3 from HB2.out.trans (hb3.mono HB2.out.size))
      have HK3 := Lib.hid (show KB w.heap.size nm x w3 from blk_below HK2.out hb3)
      clear hb3 HB2 HK2 HN
      refine E.leaves_seq (E.leaves_code Tryz.func8 ?_)
      go_wp2
      change E.Leaves _ _ [.code E.rest14] _ _ _
      exact (none_rest nm x w.heap.size _ w3 HK3.out rfl rfl rfl).mono fun e w' ⟨h1, h2⟩ => ⟨h1, HB3.out.trans (h2.mono HB3.out.size)⟩
    · change E.Leaves _ _ _ _ _ _
      have HB3 := Lib.hid (show Below w.heap.size w w3 from HB2.out.trans (hb3.mono HB2.out.size))
      have HK3 := Lib.hid (show KB w.heap.size nm x w3 from blk_below HK2.out hb3)
      have HI := Lib.hid (id_c g h name w3 hr)
      clear hb3 HB2 HK2 HN hr
      refine E.leaves_seq (E.leaves_code Tryz.func8 ?_)
      go_wp2_with (go_at_call 38; refine HI.out.mono ?_; rintro e w4 ⟨rfl, hb4⟩)
      change E.Leaves _ _ [.code E.rest14] _ _ _
      have HB4 := Lib.hid (show Below w.heap.size w w4 from HB3.out.trans (hb4.mono HB3.out.size))
      exact (none_rest nm x w.heap.size _ w4 (blk_below HK3.out hb4) rfl rfl rfl).mono fun e w' ⟨h1, h2⟩ => ⟨h1, HB4.out.trans (h2.mono HB4.out.size)⟩
end Go.Proofs.YtifcganfcjildaaGreatDoor.K
