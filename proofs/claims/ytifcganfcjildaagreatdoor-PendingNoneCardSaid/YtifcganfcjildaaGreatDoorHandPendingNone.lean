/- HandPendingNone: a text of this claim's proof, as printed or written, without what the claim does not use. -/
import Derived.WalkKit
import Derived.WalkSpells
import Derived.Lib.Hide
import Derived.BigQuiet
import Derived.Deep.QuietTactic
import Derived.Test.YtifcganfcjildaaGreatDoorJ7
import Derived.Test.YtifcganfcjildaaGreatDoorJ6
import Derived.Test.YtifcganfcjildaaGreatDoorKx0
namespace Go.Proofs.YtifcganfcjildaaGreatDoor.K
open Go.RowKit Go.Proofs.YtifcganfcjildaaGreatDoorW.PrintWords Go.Proofs.YtifcganfcjildaaGreatDoorW.PrintLast Go.Proofs.YtifcganfcjildaaGreatDoorW.PrintMore
set_option linter.unusedVariables false
set_option linter.unusedSimpArgs false
theorem opqs {φ : E.Map} : ∀ (l : List Value), (∀ v ∈ l, v.oneCell' = true) → E.VRs φ (List.replicate l.length .opq) l
  | [], _ => .nil
  | v :: l, h => .cons (.opq (h v (List.mem_cons_self ..))) (opqs l fun u hu => h u (List.mem_cons_of_mem _ hu))
theorem set_row : ∀ (l : List Value) (n : Nat) (Z : Array Value), n + l.length ≤ Z.size → (l.zipIdx n).foldl (fun (cs : Array Value) p => cs.setIfInBounds p.2 p.1) Z = ⟨Z.toList.take n ++ l ++ Z.toList.drop (n + l.length)⟩
  | [], n, Z, _ => by
    obtain ⟨z⟩ := Z
    simp
  | a :: l, n, Z, h => by
    rw [List.zipIdx_cons, List.foldl_cons]
    simp only [List.length_cons] at h
    rw [set_row l (n + 1) (Z.setIfInBounds n a) (by simp only [Array.size_setIfInBounds]; omega)]
    obtain ⟨z⟩ := Z
    simp only [List.size_toArray] at h
    simp only [List.setIfInBounds_toArray, List.length_cons]
    congr 1
    rw [List.take_set, List.drop_set_of_lt (by omega), show n + 1 + l.length = n + (l.length + 1) by omega]
    rw [List.take_succ_eq_append_getElem (by omega), List.set_append_right _ _ (by rw [List.length_take]; omega)]
    simp [List.length_take, Nat.min_eq_left (show n ≤ z.length by omega)]
theorem kv_fold (cs Z : Array Value) (n : Nat) (hn : n = cs.size) (hZ : Z.size = cs.size) : Array.foldl (fun (cs : Array Value) (p : Value × Nat) => cs.setIfInBounds p.2 p.1) Z (cs.zipIdx 0) 0 n = cs := by
  subst hn
  have h := set_row cs.toList 0 Z (by simp [hZ])
  rw [← Array.toList_zipIdx] at h
  rw [show cs.size = (cs.zipIdx 0).size by simp, ← Array.foldl_toList, h]
  obtain ⟨c⟩ := cs
  simp at hZ ⊢
  omega
theorem pnone_rest (kd pr : Int) (nm : ByteArray) (x : EvV) (g : Nat) (a : Act) (w : World) (hk : DB g kd pr nm x w) (hN : a.tmps.size = 111) (hd : a.defers = []) (h1 : a.tmps.getD 1 undef = .pointer (some ⟨g, 0, none⟩)) :
    E.Leaves Tryz.prog 6 [.code E.rest19] a w fun e w' => e = .returned (.bool true) ∧ Below w.heap.size w w' := by
  have h := E.leaves_run (X := E.X19) E.X19_ok E.mixed_X (E.run_none19 pr (nm.data.toList.map (·.toNat)) (x.room.data.toList.map (·.toNat))) (w := w) (a := a) (φ := fun i => if i = 0 then some ⟨g, 0, 19⟩ else none) hN hd ?_ ?_ ?_
  · exact h
  · intro p hp
    obtain rfl := List.mem_singleton.1 hp
    refine ⟨by decide, ?_⟩
    show E.VR _ (.ptr 0 0) (a.tmps.getD 1 undef)
    rw [h1]
    exact .ptr (p := ⟨g, 0, 19⟩) rfl
  · intro i p hp
    by_cases c : i = 0
    · subst c; exact Nat.zero_lt_one
    · simp [c] at hp
  · intro i cs hi
    match i, hi with
    | 0, hi =>
      obtain rfl := Option.some.inj hi
      refine ⟨⟨g, 0, 19⟩, dvC kd pr nm x, 61, rfl, hk, rfl, Nat.le_refl _, ?_, ?_⟩
      · show E.VRs _ (E.cells19 pr (nm.data.toList.map (·.toNat)) (x.room.data.toList.map (·.toNat))) (dvC kd pr nm x).toList
        refine .cons (.opq rfl) (.cons (.int _ _) (.cons (.str rfl) (.cons (.str rfl) ?_)))
        exact opqs [.string x.type, .string x.sender, .bool x.isS, .string x.key, .int .i64 x.kind, .int .i64 x.n, .string x.text, .slice x.A8 x.keys.length x.c8, .slice x.A9 x.list.length x.c9, .slice x.A10 x.prev.length x.c10, .slice x.A11 x.auth.length x.c11, .int .i64 x.depth, .int .i64 x.ts, .string x.hash, .slice x.A15 x.sigs.length x.c15] (by intro v hv; simp only [List.mem_cons, List.not_mem_nil, or_false] at hv; rcases hv with rfl | rfl | rfl | rfl | rfl | rfl | rfl | rfl | rfl | rfl | rfl | rfl | rfl | rfl | rfl <;> rfl)
      · intro v hv
        simp only [E.cells19, List.mem_cons] at hv
        rcases hv with rfl | rfl | rfl | rfl | hv
        · rfl
        · rfl
        · rfl
        · rfl
        · obtain ⟨-, rfl⟩ := List.mem_replicate.1 hv
          rfl
    | i + 1, hi => simp at hi
set_option maxRecDepth 100000 in
set_option maxHeartbeats 1000000 in
theorem pendingNone_c (kd pr : Int) (nm : ByteArray) (x : EvV) (hN : Near x) (w : World) (hx : x.OkR w) :
    Calls Tryz.prog 6 #[.agg (dvC kd pr nm x)] w fun e w' => e = .returned (.bool true) ∧ Below w.heap.size w w' := by
  obtain ⟨b, hb, hF⟩ := few19_c kd pr nm x hN
  have HX := Lib.hid (fun W (h : Below w.heap.size w W) => hx.below h)
  have HF := Lib.hid hF
  have hu := Tryz.underlying61
  clear hb hF hx
  have hz : (dvC kd pr nm x).size = 19 := rfl
  have hfold : ∀ (Z : Array Value) (hZ : Z.size = 19), Array.foldl (fun (cs : Array Value) (p : Value × Nat) => cs.setIfInBounds p.2 p.1) Z ((dvC kd pr nm x).zipIdx 0) 0 19 = dvC kd pr nm x := fun Z hZ => kv_fold _ _ _ hz.symm (hZ.trans hz.symm)
  have HFo := Lib.hid hfold
  clear hfold
  refine E.calls_of_leaves Tryz.func6 rfl ?_
  simp only [Tryz.ntmps6, List.size_toArray, List.length_cons, List.length_nil, Nat.reduceAdd, Nat.reduceSub, Array.replicate_succ, Array.replicate_zero, List.push_toArray, List.append_toArray, List.nil_append, List.cons_append]
  refine E.leaves_seq (E.leaves_code Tryz.func6 ?_)
  go_wp2_with (((with_reducible refine gate_dst (N := 1) rfl ?_); refine box_event ?hg (N := 1) ?hd (cs := dvC kd pr nm x) (t := 61) ?hr ?_; (case hd => rfl); (case hg => rfl); (case hr => first | (go_simp; done) | (go_simp; rfl)); intro g hg w1 hk hb1))
  change E.Leaves _ _ _ _ _ _
  subst hg
  have HK := Lib.hid hk
  have HB1 := Lib.hid hb1
  clear hk hb1
  cases b with
  | false =>
    refine E.leaves_seq (E.leaves_code Tryz.func6 ?_)
    go_wp2_with (first | ((with_reducible refine gate_dst (N := 12) rfl ?_); refine wpList_load_part (by rfl) 61 (.tmp 1) rfl w.heap.size 0 rfl 61 (dvC kd pr nm x) (dvC kd pr nm x) (0, 0) _ HK.out rfl hu rfl (by kernel_rfl) ?_) | (go_at_call 25; rw [HFo.out]; rotate_left; rfl; refine (HF.out _ w1.heap.size 1 (HX.out _ (by apply below_alloc; exact HB1.out)) (blk_new w1 _)).mono ?_; rintro e w2 ⟨rfl, hb2⟩; have HB2 := Lib.hid (show Below w.heap.size w w2 from (below_alloc HB1.out _).trans (hb2.mono (below_alloc HB1.out _).size)); have HK2 := Lib.hid (show DB w.heap.size kd pr nm x w2 from blk_below (blk_alloc HK.out _) hb2); clear hb2))
    exact ⟨rfl, _, results_tmp rfl _ _ _, rfl, HB2.out⟩
  | true =>
    refine E.leaves_seq (E.leaves_code Tryz.func6 ?_)
    go_wp2_with (first | ((with_reducible refine gate_dst (N := 12) rfl ?_); refine wpList_load_part (by rfl) 61 (.tmp 1) rfl w.heap.size 0 rfl 61 (dvC kd pr nm x) (dvC kd pr nm x) (0, 0) _ HK.out rfl hu rfl (by kernel_rfl) ?_) | (go_at_call 25; rw [HFo.out]; rotate_left; rfl; refine (HF.out _ w1.heap.size 1 (HX.out _ (by apply below_alloc; exact HB1.out)) (blk_new w1 _)).mono ?_; rintro e w2 ⟨rfl, hb2⟩; have HB2 := Lib.hid (show Below w.heap.size w w2 from (below_alloc HB1.out _).trans (hb2.mono (below_alloc HB1.out _).size)); have HK2 := Lib.hid (show DB w.heap.size kd pr nm x w2 from blk_below (blk_alloc HK.out _) hb2); clear hb2))
    change E.Leaves _ _ [.code E.rest19] _ _ _
    exact (pnone_rest kd pr nm x w.heap.size _ w2 HK2.out rfl rfl rfl).mono fun e w' ⟨h1, h2⟩ => ⟨h1, HB2.out.trans (h2.mono HB2.out.size)⟩
end Go.Proofs.YtifcganfcjildaaGreatDoor.K
