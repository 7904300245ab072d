/- HandFew: a text of this claim's proof, as printed or written, without what the claim does not use. -/
import Derived.WalkKit
import Derived.WalkSpells
import Derived.Deep.LoopGhost
import Derived.Lib.Hide
import Derived.BigQuiet
import Derived.Deep.QuietTactic
import Derived.Test.YtodhmbnfliajiaaGreatDoorJ14
import Derived.Laws.CopyOwn
import Derived.Test.YtodhmbnfliajiaaGreatDoorJ6
import Derived.Test.YtodhmbnfliajiaaGreatDoorHandMessage
import Derived.Test.YtodhmbnfliajiaaGreatDoorPureGuards
import Derived.Test.YtodhmbnfliajiaaGreatDoorQx0
import Derived.Test.YtodhmbnfliajiaaGreatDoorQx3
import Derived.Test.YtodhmbnfliajiaaGreatDoorJ12
namespace Go.Proofs.YtodhmbnfliajiaaGreatDoor.Q
open Go.RowKit Go.Proofs.YtodhmbnfliajiaaGreatDoorW.PrintWords Go.Proofs.YtodhmbnfliajiaaGreatDoorW.PrintLast Go.Proofs.YtodhmbnfliajiaaGreatDoorW.PrintMore
set_option linter.unusedVariables false
set_option linter.unusedSimpArgs false
structure Giv (A : Option Addr) (c : Nat) (l : List RL) (x : EvV) (w : World) : Prop where
  hT : Tabs w
  hr : Kd.C k47 w A l.length l
  hc : l.length ≤ c
  hx : x.OkR w
theorem Giv.below {A : Option Addr} {c : Nat} {l : List RL} {x : EvV} {w W : World} (h : Giv A c l x w) (hb : Below w.heap.size w W) : Giv A c l x W := ⟨h.hT.below hb, Kd.C_below h.hr hb, h.hc, h.hx.below hb⟩
theorem Giv.nil {A : Option Addr} {c : Nat} {l : List RL} {x : EvV} {w : World} (h : Giv A c l x w) : Giv none 0 [] x w := ⟨h.hT, C_nil _ _ _, Nat.le_refl _, h.hx⟩
def SB (g : Nat) (x : EvV) (user name : ByteArray) (mem lev : Int) (W : World) : Prop := W.heap[g]? = some (.cells (scV x user name mem lev) 32 (0, 0))
theorem SB.below {g : Nat} {x : EvV} {user name : ByteArray} {mem lev : Int} {W W' : World} (h : SB g x user name mem lev W) (hb : Below W.heap.size W W') : SB g x user name mem lev W' := blk_below h hb
def smallB (q : S23) : Bool := if wrap64 ((q.f0.size : Int) + (q.f1.size : Int)) ≤ 200 then decide ((q.f2.size : Int) ≤ 60) else false
theorem smallB_size {q : S23} (h : smallB q = true) : q.f2.size ≤ 60 := by
  unfold smallB at h
  by_cases c : wrap64 ((q.f0.size : Int) + (q.f1.size : Int)) ≤ 200
  · rw [if_pos c] at h; have := of_decide_eq_true h; omega
  · rw [if_neg c] at h; cases h
theorem smallB_c (q : S23) (w : World) : Calls Tryz.prog 10 #[.agg #[.string q.f0, .string q.f1, .string q.f2, .int .i64 q.f3]] w fun e w' => e = .returned (.bool (smallB q)) ∧ Below w.heap.size w w' :=
  agoralaw27_small.calls q.f0 q.f1 q.f2 q.f3 _ w (by unfold agoralaw27_small.f smallB; by_cases c : wrap64 ((q.f0.size : Int) + (q.f1.size : Int)) ≤ 200 <;> simp [c])
def RuleC (r : RL) : Prop := r.f3.length ≤ 6 ∧ r.f1.size ≤ 100 ∧ ∀ k (h : k < r.f3.length), smallB r.f3[k] = true
set_option maxRecDepth 100000 in
set_option maxHeartbeats 8000000 in
theorem few_c0 (x : EvV) (user name : ByteArray) (mem lev : Int) (l : List RL) (hN : Near x) : ∃ b, (b = true → FewIs l x name ∧ wrap64 ((user.size : Int) + (name.size : Int)) ≤ 200) ∧ ∀ A c w, Giv A c l x w → Calls Tryz.prog 9 #[.slice A l.length c, .agg (scV x user name mem lev)] w fun e w' => e = .returned (.bool b) ∧ Below w.heap.size w w' := by
  obtain ⟨b5, q5, h5⟩ := few05_c x hN
  obtain ⟨FC, hFC⟩ : ∃ FC : Prop, FC = (l.length ≤ 15 ∧ b5 = true ∧ wrap64 ((user.size : Int) + (name.size : Int)) ≤ 200 ∧ (getOf (aclValue x.kind x.keys x.list ⟨#[98, 111, 100, 121]⟩)).2.2.1.size ≤ 60 ∧ name.size ≤ 60 ∧ ∀ k (h : k < l.length), RuleC l[k]) := ⟨_, rfl⟩
  obtain ⟨b, hb1, hb2⟩ : ∃ b : Bool, (FC → b = true) ∧ (¬ FC → b = false) := by
    by_cases h : FC
    · exact ⟨true, fun _ => rfl, fun h' => absurd h h'⟩
    · exact ⟨false, fun h' => absurd h' h, fun _ => rfl⟩
  refine ⟨b, fun hb => ?_, fun A c w hG => ?_⟩
  · have hC : FC := by
      apply Classical.byContradiction
      intro h
      rw [hb2 h] at hb; cases hb
    rw [hFC] at hC
    refine ⟨⟨hC.1, q5 hC.2.1, hC.2.2.2.2.1, fun r hr => ?_⟩, hC.2.2.1⟩
    obtain ⟨k, hk, rfl⟩ := List.getElem_of_mem hr
    have := hC.2.2.2.2.2 k hk
    refine ⟨this.1, fun q hq => ?_⟩
    obtain ⟨j, hj, rfl⟩ := List.getElem_of_mem hq
    exact smallB_size (this.2.2 j hj)
  have HB2 := Lib.hid (fun (h : ¬ (l.length ≤ 15 ∧ b5 = true ∧ wrap64 ((user.size : Int) + (name.size : Int)) ≤ 200 ∧ (getOf (aclValue x.kind x.keys x.list ⟨#[98, 111, 100, 121]⟩)).2.2.1.size ≤ 60 ∧ name.size ≤ 60 ∧ ∀ k (h : k < l.length), RuleC l[k])) => hb2 (by rw [hFC]; exact h))
  have HB1 := Lib.hid (fun (h : l.length ≤ 15 ∧ b5 = true ∧ wrap64 ((user.size : Int) + (name.size : Int)) ≤ 200 ∧ (getOf (aclValue x.kind x.keys x.list ⟨#[98, 111, 100, 121]⟩)).2.2.1.size ≤ 60 ∧ name.size ≤ 60 ∧ ∀ k (h : k < l.length), RuleC l[k]) => hb1 (by rw [hFC]; exact h))
  have HG := Lib.hid hG
  have H5 := Lib.hid (fun W (hb : Below w.heap.size w W) => h5 W (hG.hx.below hb))
  have Q5 := Lib.hid q5
  have hcl : l.length ≤ c := hG.hc
  clear hG h5 q5 hb1 hb2 hFC FC hN
  have hu := Tryz.underlying32
  have hu2 := Tryz.underlying27
  have hu30 := Tryz.underlying30
  by_cases g1 : 15 < l.length
  · have z1 : decide ((15 : Int) < (l.length : Int)) = true := decide_eq_true (by omega)
    have hbf : b = false := HB2.out (fun h => by have := h.1; omega)
    clear g1
    go_enter Tryz.func9, Tryz.ntmps9
    go_wp2_with (((with_reducible refine gate_dst (N := 3) rfl ?_); refine box_event ?hg (N := 3) ?hd (cs := scV x user name mem lev) (t := 32) ?hr ?_; (case hd => rfl); (case hg => rfl); (case hr => first | (go_simp; done) | (go_simp; rfl)); intro g3 hg3 w3 hk3 hb3; (have hn3 : w.heap.size ≤ g3 := Nat.le_of_eq hg3.symm); have HN3 := Lib.hid hn3; have HK3 := Lib.hid hk3; have HW3 := Lib.hid hb3; clear hk3 hb3 hg3 hn3))
    go_ret
    exact ⟨by first | rfl | (rw [hbf]; rfl), HW3.out⟩
  have z1 : decide ((15 : Int) < (l.length : Int)) = false := decide_eq_false (by omega)
  cases b5 with
  | false =>
    have hbf : b = false := HB2.out (fun h => by have := h.2.1; cases this)
    go_enter Tryz.func9, Tryz.ntmps9
    go_wp2_with (first | ((with_reducible refine gate_dst (N := 3) rfl ?_); refine box_event ?hg (N := 3) ?hd (cs := scV x user name mem lev) (t := 32) ?hr ?_; (case hd => rfl); (case hg => rfl); (case hr => first | (go_simp; done) | (go_simp; rfl)); intro g3 hg3 w3 hk3 hb3; (have hn3 : w.heap.size ≤ g3 := Nat.le_of_eq hg3.symm); have HN3 := Lib.hid hn3; have HK3 := Lib.hid hk3; have HW3 := Lib.hid hb3; clear hk3 hb3 hg3 hn3) | ((with_reducible refine gate_dst (N := 14) rfl ?_); refine wpList_load_part (by rfl) 30 (.tmp 13) rfl g3 0 rfl 32 (scV x user name mem lev) (evC x) (0, 0) _ HK3.out rfl hu30 rfl (by kernel_rfl) ?_) | (go_at_call 21; refine (H5.out _ HW3.out).mono ?_; rintro e w4 ⟨rfl, hb4⟩; have HB4 := Lib.hid (below_step HW3.out hb4); have HK4 := Lib.hid (blk_below HK3.out hb4); clear hb4; have c5 : w4.cell? ⟨g3, 5, none⟩ = some (.int .i64 x.kind) := (blk_cell HK4.out 5).trans rfl; have c6 : w4.cell? ⟨g3, 6, none⟩ = some (.int .i64 x.n) := (blk_cell HK4.out 6).trans rfl; have c7 : w4.cell? ⟨g3, 7, none⟩ = some (.string x.text) := (blk_cell HK4.out 7).trans rfl; have c8 : w4.cell? ⟨g3, 8, none⟩ = some (.slice x.A8 x.keys.length x.c8) := (blk_cell HK4.out 8).trans rfl; have c9 : w4.cell? ⟨g3, 9, none⟩ = some (.slice x.A9 x.list.length x.c9) := (blk_cell HK4.out 9).trans rfl; have c16 : w4.cell? ⟨g3, 16, none⟩ = some (.string user) := (blk_cell HK4.out 16).trans rfl; have c17 : w4.cell? ⟨g3, 17, none⟩ = some (.string name) := (blk_cell HK4.out 17).trans rfl))
    go_ret
    exact ⟨by first | rfl | (rw [hbf]; rfl), HB4.out⟩
  | true =>
  have hf5 := Q5.out rfl
  have hk5 : x.keys.length ≤ 100 := hf5.okay.1.1
  have HF5 := Lib.hid hf5
  clear hf5
  have hget := get_f x.kind x.n x.text x.keys (by omega) x.list ⟨#[98, 111, 100, 121]⟩ 300 (by omega)
  obtain ⟨t, ht⟩ : ∃ t, t = getOf (aclValue x.kind x.keys x.list ⟨#[98, 111, 100, 121]⟩) := ⟨_, rfl⟩
  rw [← ht] at hget HB1 HB2
  clear ht hk5
  obtain ⟨r1, r2, r3, r4, r5, r6⟩ := t
  have HGe := Lib.hid (fun W (hb : Below w.heap.size w W) => (agoraref01_Get.calls 300 x.kind x.n x.text x.A8 x.c8 x.keys (fun k => k < W.heap.size) x.A9 x.c9 x.list ⟨#[98, 111, 100, 121]⟩ r1 r2 r3 r4 r5 r6 W (HG.out.hx.below hb).ok.k8 (HG.out.hx.below hb).ok.l8 ⟨_, _, rfl, (HG.out.hx.below hb).ok.l9, Kd.C_F k27_heap (HG.out.hx.below hb).ok.k9⟩ hget))
  clear hget
  have hr3 : (r1, r2, r3, r4, r5, r6).2.2.1 = r3 := rfl
  rw [hr3] at HB1 HB2
  clear hr3
  by_cases g2 : 200 < wrap64 ((user.size : Int) + (name.size : Int))
  · have z2 : decide (200 < wrap64 ((user.size : Int) + (name.size : Int))) = true := decide_eq_true g2
    have hbf : b = false := HB2.out (fun h => by exact absurd h.2.2.1 (Int.not_le.2 g2))
    clear g2
    go_enter Tryz.func9, Tryz.ntmps9
    go_wp2_with (first | ((with_reducible refine gate_dst (N := 3) rfl ?_); refine box_event ?hg (N := 3) ?hd (cs := scV x user name mem lev) (t := 32) ?hr ?_; (case hd => rfl); (case hg => rfl); (case hr => first | (go_simp; done) | (go_simp; rfl)); intro g3 hg3 w3 hk3 hb3; (have hn3 : w.heap.size ≤ g3 := Nat.le_of_eq hg3.symm); have HN3 := Lib.hid hn3; have HK3 := Lib.hid hk3; have HW3 := Lib.hid hb3; clear hk3 hb3 hg3 hn3) | ((with_reducible refine gate_dst (N := 14) rfl ?_); refine wpList_load_part (by rfl) 30 (.tmp 13) rfl g3 0 rfl 32 (scV x user name mem lev) (evC x) (0, 0) _ HK3.out rfl hu30 rfl (by kernel_rfl) ?_) | (go_at_call 21; refine (H5.out _ HW3.out).mono ?_; rintro e w4 ⟨rfl, hb4⟩; have HB4 := Lib.hid (below_step HW3.out hb4); have HK4 := Lib.hid (blk_below HK3.out hb4); clear hb4; have c5 : w4.cell? ⟨g3, 5, none⟩ = some (.int .i64 x.kind) := (blk_cell HK4.out 5).trans rfl; have c6 : w4.cell? ⟨g3, 6, none⟩ = some (.int .i64 x.n) := (blk_cell HK4.out 6).trans rfl; have c7 : w4.cell? ⟨g3, 7, none⟩ = some (.string x.text) := (blk_cell HK4.out 7).trans rfl; have c8 : w4.cell? ⟨g3, 8, none⟩ = some (.slice x.A8 x.keys.length x.c8) := (blk_cell HK4.out 8).trans rfl; have c9 : w4.cell? ⟨g3, 9, none⟩ = some (.slice x.A9 x.list.length x.c9) := (blk_cell HK4.out 9).trans rfl; have c16 : w4.cell? ⟨g3, 16, none⟩ = some (.string user) := (blk_cell HK4.out 16).trans rfl; have c17 : w4.cell? ⟨g3, 17, none⟩ = some (.string name) := (blk_cell HK4.out 17).trans rfl))
    go_ret
    exact ⟨by first | rfl | (rw [hbf]; rfl), HB4.out⟩
  have z2 : decide (200 < wrap64 ((user.size : Int) + (name.size : Int))) = false := decide_eq_false g2
  have G2 := Lib.hid (Int.not_lt.1 g2)
  clear g2
  by_cases g4 : 60 < r3.size
  · have z4 : decide ((60 : Int) < (r3.size : Int)) = true := decide_eq_true (by omega)
    have hbf : b = false := HB2.out (fun h => by have := h.2.2.2.1; omega)
    clear g4
    go_enter Tryz.func9, Tryz.ntmps9
    go_wp2_with (first | ((with_reducible refine gate_dst (N := 3) rfl ?_); refine box_event ?hg (N := 3) ?hd (cs := scV x user name mem lev) (t := 32) ?hr ?_; (case hd => rfl); (case hg => rfl); (case hr => first | (go_simp; done) | (go_simp; rfl)); intro g3 hg3 w3 hk3 hb3; (have hn3 : w.heap.size ≤ g3 := Nat.le_of_eq hg3.symm); have HN3 := Lib.hid hn3; have HK3 := Lib.hid hk3; have HW3 := Lib.hid hb3; clear hk3 hb3 hg3 hn3) | ((with_reducible refine gate_dst (N := 14) rfl ?_); refine wpList_load_part (by rfl) 30 (.tmp 13) rfl g3 0 rfl 32 (scV x user name mem lev) (evC x) (0, 0) _ HK3.out rfl hu30 rfl (by kernel_rfl) ?_) | (go_at_call 21; refine (H5.out _ HW3.out).mono ?_; rintro e w4 ⟨rfl, hb4⟩; have HB4 := Lib.hid (below_step HW3.out hb4); have HK4 := Lib.hid (blk_below HK3.out hb4); clear hb4; have c5 : w4.cell? ⟨g3, 5, none⟩ = some (.int .i64 x.kind) := (blk_cell HK4.out 5).trans rfl; have c6 : w4.cell? ⟨g3, 6, none⟩ = some (.int .i64 x.n) := (blk_cell HK4.out 6).trans rfl; have c7 : w4.cell? ⟨g3, 7, none⟩ = some (.string x.text) := (blk_cell HK4.out 7).trans rfl; have c8 : w4.cell? ⟨g3, 8, none⟩ = some (.slice x.A8 x.keys.length x.c8) := (blk_cell HK4.out 8).trans rfl; have c9 : w4.cell? ⟨g3, 9, none⟩ = some (.slice x.A9 x.list.length x.c9) := (blk_cell HK4.out 9).trans rfl; have c16 : w4.cell? ⟨g3, 16, none⟩ = some (.string user) := (blk_cell HK4.out 16).trans rfl; have c17 : w4.cell? ⟨g3, 17, none⟩ = some (.string name) := (blk_cell HK4.out 17).trans rfl) | (go_at_call 22; refine (HGe.out _ HB4.out).mono ?_; rintro e w5 ⟨v3, v4, rfl, ⟨A5, c5', rfl, _, _⟩, ⟨B5, d5, rfl, _, _⟩, hb5⟩; (obtain ⟨n5, hn5⟩ : ∃ n5, n5 = r4.length := ⟨_, rfl⟩); (obtain ⟨m5, hm5⟩ : ∃ m5, m5 = r5.length := ⟨_, rfl⟩); rw [← hn5, ← hm5]; have HB5 := Lib.hid (below_step HB4.out hb5); have HK5 := Lib.hid (blk_below HK4.out hb5); clear hb5 hn5 hm5) | ((with_reducible refine gate_dst (N := 5) rfl ?_); refine box_event ?hg (N := 5) ?hd (cs := #[.int .i64 0, .int .i64 0, .string (⟨#[]⟩ : ByteArray), .slice none 0 0, .slice none 0 0]) (t := 27) ?hr ?_; (case hd => rfl); (case hg => rfl); (case hr => first | (go_simp; done) | (go_simp; rfl)); intro g5' hg5 w6 hk6 hb6; (have hne : g3 ≠ g5' := by (rw [hg5]; exact Nat.ne_of_lt (blk_lt HK5.out))); (have hn6 : w.heap.size ≤ g5' := by (rw [hg5]; exact HB5.out.size)); have HNE := Lib.hid hne; have HN6 := Lib.hid hn6; have HJ6 := Lib.hid hk6; have HB6 := Lib.hid (below_step HB5.out hb6); have HK6 := Lib.hid (blk_below HK5.out hb6); clear hk6 hb6 hg5 hne hn6) | ((with_reducible refine gate_store (t := 27) (p := 5) rfl ?_); refine wpList_store_row rfl 27 (.tmp 5) (.tmp 33) rfl g5' #[.int .i64 r1, .int .i64 r2, .string r3, .slice A5 n5 c5', .slice B5 m5 d5] rfl rfl 27 _ HJ6.out (by kernel_rfl) rfl (by simp [Value.oneCell']) ?_; (have hj7 := setRow_heap _ _ _ #[.int .i64 r1, .int .i64 r2, .string r3, .slice A5 n5 c5', .slice B5 m5 d5] _ _ HJ6.out); (have hk7 := (setRow_other w6 g5' g3 #[.int .i64 r1, .int .i64 r2, .string r3, .slice A5 n5 c5', .slice B5 m5 d5] HNE.out).trans HK6.out); have HB7 := Lib.hid (below_setRow HB6.out HN6.out #[.int .i64 r1, .int .i64 r2, .string r3, .slice A5 n5 c5', .slice B5 m5 d5]); generalize w6.setRow g5' #[.int .i64 r1, .int .i64 r2, .string r3, .slice A5 n5 c5', .slice B5 m5 d5] = w7 at hj7 hk7 HB7 ⊢; (have e2 : w7.cell? ⟨g5', 2, none⟩ = some (.string r3) := (blk_cell hj7 2).trans rfl); (have e17 : w7.cell? ⟨g3, 17, none⟩ = some (.string name) := (blk_cell hk7 17).trans rfl); clear hj7 hk7))
    go_ret
    exact ⟨by first | rfl | (rw [hbf]; rfl), HB7.out⟩
  have z4 : decide ((60 : Int) < (r3.size : Int)) = false := decide_eq_false (by omega)
  by_cases g5 : 60 < name.size
  · have z5 : decide ((60 : Int) < (name.size : Int)) = true := decide_eq_true (by omega)
    have hbf : b = false := HB2.out (fun h => by have := h.2.2.2.2.1; omega)
    clear g5
    go_enter Tryz.func9, Tryz.ntmps9
    go_wp2_with (first | ((with_reducible refine gate_dst (N := 3) rfl ?_); refine box_event ?hg (N := 3) ?hd (cs := scV x user name mem lev) (t := 32) ?hr ?_; (case hd => rfl); (case hg => rfl); (case hr => first | (go_simp; done) | (go_simp; rfl)); intro g3 hg3 w3 hk3 hb3; (have hn3 : w.heap.size ≤ g3 := Nat.le_of_eq hg3.symm); have HN3 := Lib.hid hn3; have HK3 := Lib.hid hk3; have HW3 := Lib.hid hb3; clear hk3 hb3 hg3 hn3) | ((with_reducible refine gate_dst (N := 14) rfl ?_); refine wpList_load_part (by rfl) 30 (.tmp 13) rfl g3 0 rfl 32 (scV x user name mem lev) (evC x) (0, 0) _ HK3.out rfl hu30 rfl (by kernel_rfl) ?_) | (go_at_call 21; refine (H5.out _ HW3.out).mono ?_; rintro e w4 ⟨rfl, hb4⟩; have HB4 := Lib.hid (below_step HW3.out hb4); have HK4 := Lib.hid (blk_below HK3.out hb4); clear hb4; have c5 : w4.cell? ⟨g3, 5, none⟩ = some (.int .i64 x.kind) := (blk_cell HK4.out 5).trans rfl; have c6 : w4.cell? ⟨g3, 6, none⟩ = some (.int .i64 x.n) := (blk_cell HK4.out 6).trans rfl; have c7 : w4.cell? ⟨g3, 7, none⟩ = some (.string x.text) := (blk_cell HK4.out 7).trans rfl; have c8 : w4.cell? ⟨g3, 8, none⟩ = some (.slice x.A8 x.keys.length x.c8) := (blk_cell HK4.out 8).trans rfl; have c9 : w4.cell? ⟨g3, 9, none⟩ = some (.slice x.A9 x.list.length x.c9) := (blk_cell HK4.out 9).trans rfl; have c16 : w4.cell? ⟨g3, 16, none⟩ = some (.string user) := (blk_cell HK4.out 16).trans rfl; have c17 : w4.cell? ⟨g3, 17, none⟩ = some (.string name) := (blk_cell HK4.out 17).trans rfl) | (go_at_call 22; refine (HGe.out _ HB4.out).mono ?_; rintro e w5 ⟨v3, v4, rfl, ⟨A5, c5', rfl, _, _⟩, ⟨B5, d5, rfl, _, _⟩, hb5⟩; (obtain ⟨n5, hn5⟩ : ∃ n5, n5 = r4.length := ⟨_, rfl⟩); (obtain ⟨m5, hm5⟩ : ∃ m5, m5 = r5.length := ⟨_, rfl⟩); rw [← hn5, ← hm5]; have HB5 := Lib.hid (below_step HB4.out hb5); have HK5 := Lib.hid (blk_below HK4.out hb5); clear hb5 hn5 hm5) | ((with_reducible refine gate_dst (N := 5) rfl ?_); refine box_event ?hg (N := 5) ?hd (cs := #[.int .i64 0, .int .i64 0, .string (⟨#[]⟩ : ByteArray), .slice none 0 0, .slice none 0 0]) (t := 27) ?hr ?_; (case hd => rfl); (case hg => rfl); (case hr => first | (go_simp; done) | (go_simp; rfl)); intro g5' hg5 w6 hk6 hb6; (have hne : g3 ≠ g5' := by (rw [hg5]; exact Nat.ne_of_lt (blk_lt HK5.out))); (have hn6 : w.heap.size ≤ g5' := by (rw [hg5]; exact HB5.out.size)); have HNE := Lib.hid hne; have HN6 := Lib.hid hn6; have HJ6 := Lib.hid hk6; have HB6 := Lib.hid (below_step HB5.out hb6); have HK6 := Lib.hid (blk_below HK5.out hb6); clear hk6 hb6 hg5 hne hn6) | ((with_reducible refine gate_store (t := 27) (p := 5) rfl ?_); refine wpList_store_row rfl 27 (.tmp 5) (.tmp 33) rfl g5' #[.int .i64 r1, .int .i64 r2, .string r3, .slice A5 n5 c5', .slice B5 m5 d5] rfl rfl 27 _ HJ6.out (by kernel_rfl) rfl (by simp [Value.oneCell']) ?_; (have hj7 := setRow_heap _ _ _ #[.int .i64 r1, .int .i64 r2, .string r3, .slice A5 n5 c5', .slice B5 m5 d5] _ _ HJ6.out); (have hk7 := (setRow_other w6 g5' g3 #[.int .i64 r1, .int .i64 r2, .string r3, .slice A5 n5 c5', .slice B5 m5 d5] HNE.out).trans HK6.out); have HB7 := Lib.hid (below_setRow HB6.out HN6.out #[.int .i64 r1, .int .i64 r2, .string r3, .slice A5 n5 c5', .slice B5 m5 d5]); generalize w6.setRow g5' #[.int .i64 r1, .int .i64 r2, .string r3, .slice A5 n5 c5', .slice B5 m5 d5] = w7 at hj7 hk7 HB7 ⊢; (have e2 : w7.cell? ⟨g5', 2, none⟩ = some (.string r3) := (blk_cell hj7 2).trans rfl); (have e17 : w7.cell? ⟨g3, 17, none⟩ = some (.string name) := (blk_cell hk7 17).trans rfl); clear hj7 hk7))
    go_ret
    exact ⟨by first | rfl | (rw [hbf]; rfl), HB7.out⟩
  have z5 : decide ((60 : Int) < (name.size : Int)) = false := decide_eq_false (by omega)
  have HYes := Lib.hid (fun (h : ∀ k (h : k < l.length), RuleC l[k]) => HB1.out ⟨by omega, rfl, G2.out, by omega, by omega, h⟩)
  have HNo := Lib.hid (fun k (h : k < l.length) (hn : ¬ RuleC l[k]) => HB2.out (fun q => hn (q.2.2.2.2.2 k h)))
  go_enter Tryz.func9, Tryz.ntmps9
  go_wp2_with (first | ((with_reducible refine gate_dst (N := 3) rfl ?_); refine box_event ?hg (N := 3) ?hd (cs := scV x user name mem lev) (t := 32) ?hr ?_; (case hd => rfl); (case hg => rfl); (case hr => first | (go_simp; done) | (go_simp; rfl)); intro g3 hg3 w3 hk3 hb3; (have hn3 : w.heap.size ≤ g3 := Nat.le_of_eq hg3.symm); have HN3 := Lib.hid hn3; have HK3 := Lib.hid hk3; have HW3 := Lib.hid hb3; clear hk3 hb3 hg3 hn3) | ((with_reducible refine gate_dst (N := 14) rfl ?_); refine wpList_load_part (by rfl) 30 (.tmp 13) rfl g3 0 rfl 32 (scV x user name mem lev) (evC x) (0, 0) _ HK3.out rfl hu30 rfl (by kernel_rfl) ?_) | (go_at_call 21; refine (H5.out _ HW3.out).mono ?_; rintro e w4 ⟨rfl, hb4⟩; have HB4 := Lib.hid (below_step HW3.out hb4); have HK4 := Lib.hid (blk_below HK3.out hb4); clear hb4; have c5 : w4.cell? ⟨g3, 5, none⟩ = some (.int .i64 x.kind) := (blk_cell HK4.out 5).trans rfl; have c6 : w4.cell? ⟨g3, 6, none⟩ = some (.int .i64 x.n) := (blk_cell HK4.out 6).trans rfl; have c7 : w4.cell? ⟨g3, 7, none⟩ = some (.string x.text) := (blk_cell HK4.out 7).trans rfl; have c8 : w4.cell? ⟨g3, 8, none⟩ = some (.slice x.A8 x.keys.length x.c8) := (blk_cell HK4.out 8).trans rfl; have c9 : w4.cell? ⟨g3, 9, none⟩ = some (.slice x.A9 x.list.length x.c9) := (blk_cell HK4.out 9).trans rfl; have c16 : w4.cell? ⟨g3, 16, none⟩ = some (.string user) := (blk_cell HK4.out 16).trans rfl; have c17 : w4.cell? ⟨g3, 17, none⟩ = some (.string name) := (blk_cell HK4.out 17).trans rfl) | (go_at_call 22; refine (HGe.out _ HB4.out).mono ?_; rintro e w5 ⟨v3, v4, rfl, ⟨A5, c5', rfl, _, _⟩, ⟨B5, d5, rfl, _, _⟩, hb5⟩; (obtain ⟨n5, hn5⟩ : ∃ n5, n5 = r4.length := ⟨_, rfl⟩); (obtain ⟨m5, hm5⟩ : ∃ m5, m5 = r5.length := ⟨_, rfl⟩); rw [← hn5, ← hm5]; have HB5 := Lib.hid (below_step HB4.out hb5); have HK5 := Lib.hid (blk_below HK4.out hb5); clear hb5 hn5 hm5) | ((with_reducible refine gate_dst (N := 5) rfl ?_); refine box_event ?hg (N := 5) ?hd (cs := #[.int .i64 0, .int .i64 0, .string (⟨#[]⟩ : ByteArray), .slice none 0 0, .slice none 0 0]) (t := 27) ?hr ?_; (case hd => rfl); (case hg => rfl); (case hr => first | (go_simp; done) | (go_simp; rfl)); intro g5' hg5 w6 hk6 hb6; (have hne : g3 ≠ g5' := by (rw [hg5]; exact Nat.ne_of_lt (blk_lt HK5.out))); (have hn6 : w.heap.size ≤ g5' := by (rw [hg5]; exact HB5.out.size)); have HNE := Lib.hid hne; have HN6 := Lib.hid hn6; have HJ6 := Lib.hid hk6; have HB6 := Lib.hid (below_step HB5.out hb6); have HK6 := Lib.hid (blk_below HK5.out hb6); clear hk6 hb6 hg5 hne hn6) | ((with_reducible refine gate_store (t := 27) (p := 5) rfl ?_); refine wpList_store_row rfl 27 (.tmp 5) (.tmp 33) rfl g5' #[.int .i64 r1, .int .i64 r2, .string r3, .slice A5 n5 c5', .slice B5 m5 d5] rfl rfl 27 _ HJ6.out (by kernel_rfl) rfl (by simp [Value.oneCell']) ?_; (have hj7 := setRow_heap _ _ _ #[.int .i64 r1, .int .i64 r2, .string r3, .slice A5 n5 c5', .slice B5 m5 d5] _ _ HJ6.out); (have hk7 := (setRow_other w6 g5' g3 #[.int .i64 r1, .int .i64 r2, .string r3, .slice A5 n5 c5', .slice B5 m5 d5] HNE.out).trans HK6.out); have HB7 := Lib.hid (below_setRow HB6.out HN6.out #[.int .i64 r1, .int .i64 r2, .string r3, .slice A5 n5 c5', .slice B5 m5 d5]); generalize w6.setRow g5' #[.int .i64 r1, .int .i64 r2, .string r3, .slice A5 n5 c5', .slice B5 m5 d5] = w7 at hj7 hk7 HB7 ⊢; (have e2 : w7.cell? ⟨g5', 2, none⟩ = some (.string r3) := (blk_cell hj7 2).trans rfl); (have e17 : w7.cell? ⟨g3, 17, none⟩ = some (.string name) := (blk_cell hk7 17).trans rfl); clear hj7 hk7))
  clear HB1 HB2 HGe H5 z1 z2 z4 z5
  have hl15 : l.length ≤ 15 := by omega
  go_loopw [7] (fun vi wr => ∃ i : Nat, i ≤ l.length ∧ vi = .int .i64 i ∧ Hid (∀ k (h : k < l.length), k < i → RuleC l[k]) ∧ Hid (Below w.heap.size w wr)) (fun vi _ => l.length - (intOf vi).toNat)
  case atStart => exact ⟨0, Nat.zero_le _, rfl, Lib.hid (fun k h h0 => by omega), HB7⟩
  case round =>
    clear HB7
    obtain ⟨i, hi, rfl, HL, HB⟩ := hrel
    by_cases h1 : i < l.length
    · have b1 : decide ((i : Int) < (l.length : Int)) = true := decide_eq_true (by omega)
      have i1 : (i : Int) < (l.length : Int) := by omega
      have hat := fun W (hb : Below w.heap.size w W) => at_T47 (HG.out.below hb).hr (i : Int) (by omega) (by omega)
      rw [show rd_T47 l (i : Int) = l[i] by simp [rd_T47, h1], Int.toNat_natCast] at hat
      have HNi := Lib.hid (HNo.out i h1)
      have HLi := Lib.hid (show RuleC l[i] → ∀ k (h : k < l.length), k < i + 1 → RuleC l[k] from fun hr k h h3 => by
        by_cases hk : k = i
        · subst hk; exact hr
        · exact HL.out k h (by omega))
      generalize l[i] = r at hat HNi HLi
      obtain ⟨ad, A3, c3, hA, q0, q1, q2, q3, q4, q5, hl3, hC3⟩ := hat wr HB.out
      have HAt := Lib.hid hat
      subst hA
      clear hat HL q0 q2 q4 q5
      by_cases h6 : 6 < r.f3.length
      · have b6 : decide ((6 : Int) < (r.f3.length : Int)) = true := decide_eq_true (by omega)
        have hbf : b = false := HNi.out (fun h => by have := h.1; omega)
        clear h6
        go_wp2
        go_ret
        exact ⟨by first | rfl | (rw [hbf]; rfl), HB.out⟩
      have b6 : decide ((6 : Int) < (r.f3.length : Int)) = false := decide_eq_false (by omega)
      by_cases h7 : 100 < r.f1.size
      · have b7 : decide ((100 : Int) < (r.f1.size : Int)) = true := decide_eq_true (by omega)
        have hbf : b = false := HNi.out (fun h => by have := h.2.1; omega)
        clear h7
        go_wp2
        go_ret
        exact ⟨by first | rfl | (rw [hbf]; rfl), HB.out⟩
      have b7 : decide ((100 : Int) < (r.f1.size : Int)) = false := decide_eq_false (by omega)
      go_wp2
      clear q1 q3 hl3 hC3 b1 b6 b7
      go_loopw [8] (fun v8 wr => ∃ k : Nat, k ≤ r.f3.length ∧ v8 = .int .i64 k ∧ Hid (∀ j (h : j < r.f3.length), j < k → smallB r.f3[j] = true) ∧ Hid (Below w.heap.size w wr)) (fun v8 _ => r.f3.length - (intOf v8).toNat)
      case atStart => exact ⟨0, Nat.zero_le _, rfl, Lib.hid (fun k h h0 => by omega), HB⟩
      case round =>
        clear HB
        obtain ⟨k, hk, rfl, HL, HB⟩ := hrel
        obtain ⟨ad', A3, c3, hA, q0, q1, q2, q3, q4, q5, hl3, hC3⟩ := HAt.out wr HB.out
        injection hA with hA
        subst hA
        clear q0 q1 q2 q4 q5
        by_cases h2 : k < r.f3.length
        · have b2 : decide ((k : Int) < (r.f3.length : Int)) = true := decide_eq_true (by omega)
          have i2 : (k : Int) < (r.f3.length : Int) := by omega
          obtain ⟨ad3, hA3, d0, d1, d2, d3⟩ := at_T23 hC3 (k : Int) (by omega) (by omega)
          rw [show rd_T23 r.f3 (k : Int) = r.f3[k] by simp [rd_T23, h2], Int.toNat_natCast] at *
          subst hA3
          have HNk := Lib.hid (show smallB r.f3[k] = false → b = false from fun h => HNi.out (fun hr => by have := hr.2.2 k h2; rw [h] at this; cases this))
          have HLk := Lib.hid (show smallB r.f3[k] = true → ∀ j (h : j < r.f3.length), j < k + 1 → smallB r.f3[j] = true from fun hr j h h3 => by
            by_cases hj : j = k
            · subst hj; exact hr
            · exact HL.out j h (by omega))
          have HSm := Lib.hid (smallB_c r.f3[k])
          clear HL hC3
          generalize r.f3[k] = q at *
          generalize smallB q = sb at HNk HLk HSm
          cases sb with
          | false =>
            have hbf := HNk.out rfl
            go_wp2_with (go_at_call 10; refine (HSm.out _).mono ?_; rintro e w9 ⟨rfl, hb9⟩; have HB9 := Lib.hid (below_step HB.out hb9); clear hb9)
            go_ret
            exact ⟨by first | rfl | (rw [hbf]; rfl), HB9.out⟩
          | true =>
            have HL2 := Lib.hid (HLk.out rfl)
            go_wp2_with (go_at_call 10; refine (HSm.out _).mono ?_; rintro e w9 ⟨rfl, hb9⟩; have HB9 := Lib.hid (below_step HB.out hb9); clear hb9)
            go_roundw
            case rel => exact ⟨k + 1, by omega, by simp, HL2, HB9⟩
            case measure => simp [intOf]; omega
        · obtain rfl : k = r.f3.length := by omega
          have b2 : decide ((r.f3.length : Int) < (r.f3.length : Int)) = false := decide_eq_false (by omega)
          have HL2 := Lib.hid (HLi.out ⟨by omega, by omega, fun j h => HL.out j h h⟩)
          clear HL hC3
          go_wp2
          go_roundw
          case rel => exact ⟨i + 1, by omega, by simp, HL2, HB⟩
          case measure => simp [intOf]; omega
    · obtain rfl : i = l.length := by omega
      have b1 : decide ((l.length : Int) < (l.length : Int)) = false := decide_eq_false (by omega)
      have hbt := HYes.out (fun k h => HL.out k h h)
      clear HL
      go_wp2
      go_ret
      exact ⟨by first | rfl | (rw [hbt]; rfl), HB.out⟩
theorem few_c (x : EvV) (user name : ByteArray) (mem lev : Int) (l : List RL) (hN : Near x) : ∃ b, (b = true → FewIs l x name) ∧ ∀ A c w, Giv A c l x w → Calls Tryz.prog 9 #[.slice A l.length c, .agg (scV x user name mem lev)] w fun e w' => e = .returned (.bool b) ∧ Below w.heap.size w w' := by
  obtain ⟨b, h1, h2⟩ := few_c0 x user name mem lev l hN
  exact ⟨b, fun h => (h1 h).1, h2⟩
end Go.Proofs.YtodhmbnfliajiaaGreatDoor.Q
