/- HandPushFirst: a text of this claim's proof, as printed or written, without what the claim does not use. -/
import Derived.WalkKit
import Derived.WalkSpells
import Derived.Deep.LoopGhost
import Derived.Lib.Hide
import Derived.BigQuiet
import Derived.Deep.QuietTactic
import Derived.Test.YtodhmbnfliajiaaGreatDoorJ12
import Derived.Test.YtodhmbnfliajiaaGreatDoorPureGuards
import Derived.Test.YtodhmbnfliajiaaGreatDoorQx0
import Derived.Test.YtodhmbnfliajiaaGreatDoorJ13
namespace Go.Proofs.YtodhmbnfliajiaaGreatDoor.Q
open Go.RowKit Go.Proofs.YtodhmbnfliajiaaGreatDoorW.PrintWords Go.Proofs.YtodhmbnfliajiaaGreatDoorW.PrintLast Go.Proofs.YtodhmbnfliajiaaGreatDoorW.PrintMore
set_option linter.unusedVariables false
set_option linter.unusedSimpArgs false
def FirstIs (l : List RL) (x : EvV) (name : ByteArray) (mem lev : Int) (r : Int × Bool) : Prop :=
  (r.2 = false ∧ ∀ i (h : i < l.length), ruleOk x name mem lev l[i] = false) ∨
  (∃ j : Nat, ∃ hj : j < l.length, r = ((j : Int), true) ∧ ruleOk x name mem lev l[j] = true ∧ ∀ i (h : i < l.length), ruleOk x name mem lev l[i] = true → i = j ∨ l[j].f0 < l[i].f0 ∨ (l[j].f0 = l[i].f0 ∧ j < i))
theorem first_law (l : List RL) (x : EvV) (user name : ByteArray) (mem lev : Int) (h0 : x.sender.toList ≠ user.toList) : FirstIs l x name mem lev (findB l x user name mem lev) := by
  have hs := best_spec (clsOf l) (okAt l x name mem lev) l.length
  have ho : ∀ i (h : i < l.length), okAt l x name mem lev i = ruleOk x name mem lev l[i] ∧ clsOf l i = l[i].f0 := by
    intro i h
    unfold okAt clsOf
    rw [show rd_T47 l (i : Int) = l[i] by simp [rd_T47, h]]
    exact ⟨rfl, rfl⟩
  unfold findB
  rw [if_neg h0]
  generalize bestIdx (clsOf l) (okAt l x name mem lev) l.length = o at *
  cases o with
  | none => exact .inl ⟨rfl, fun i h => by rw [← (ho i h).1]; exact hs i h⟩
  | some j =>
    refine .inr ⟨j, hs.2.1, rfl, by rw [← (ho j hs.2.1).1]; exact hs.1, fun i h hi => ?_⟩
    rw [← (ho i h).1] at hi
    rcases hs.2.2 i h hi with e | e
    · exact .inl e.symm
    · right
      unfold Lex at e
      rw [(ho j hs.2.1).2, (ho i h).2] at e
      exact e
def holdsTo (x : EvV) (name : ByteArray) (mem lev : Int) (r : RL) (k : Nat) : Bool := !r.f2 && !((r.f3.take k).any fun c => !holdsB c.f0 c.f1 c.f2 c.f3 x name mem lev)
theorem holdsTo_succ (x : EvV) (name : ByteArray) (mem lev : Int) (r : RL) (k : Nat) (h : k < r.f3.length) : holdsTo x name mem lev r (k + 1) = (holdsTo x name mem lev r k && holdsB r.f3[k].f0 r.f3[k].f1 r.f3[k].f2 r.f3[k].f3 x name mem lev) := by
  unfold holdsTo
  rw [List.take_add_one, List.getElem?_eq_getElem h, List.any_append]
  simp only [Option.toList, List.any_cons, List.any_nil, Bool.or_false, Bool.not_or, Bool.not_not, Bool.and_assoc]
theorem holdsTo_all (x : EvV) (name : ByteArray) (mem lev : Int) (r : RL) : holdsTo x name mem lev r r.f3.length = ruleOk x name mem lev r := by
  unfold holdsTo ruleOk; rw [List.take_length]
def pf13FD : List Nat := [61, 62, 63, 64, 65, 66, 67, 68, 69, 70, 71, 72, 73, 8]
def pf13FS (x : EvV) (user name : ByteArray) (mem lev : Int) (c : Nat) (l : List RL) (ad : Addr) (i : Nat) (ad3 : Addr) (rl : RL) (c3 k : Nat) (q : S23) (hq : Bool) : List Spec := [.val (.bool true), .val (.bool true), .val (.slice (some ad) l.length c), .val (.int .i64 i), .val (.pointer (some (ad.add (i * 6)))), .val (.pointer (some ⟨(ad.add (i * 6)).block, (ad.add (i * 6)).off + 3, none⟩)), .val (.slice (some ad3) rl.f3.length c3), .val (.int .i64 k), .val (.pointer (some (ad3.add (k * 4)))), .val (.agg #[.string q.f0, .string q.f1, .string q.f2, .int .i64 q.f3]), .val (.agg (scV x user name mem lev)), .val (.bool hq), .val (.bool hq), .val (.bool hq)]
def pf13TD : List Nat := [61, 62, 63, 64, 65, 66, 67, 68, 69, 70, 71, 72, 73, 8]
def pf13TS (x : EvV) (user name : ByteArray) (mem lev : Int) (c : Nat) (l : List RL) (ad : Addr) (i : Nat) (ad3 : Addr) (rl : RL) (c3 k : Nat) (q : S23) (hq : Bool) : List Spec := [.val (.bool true), .val (.bool true), .val (.slice (some ad) l.length c), .val (.int .i64 i), .val (.pointer (some (ad.add (i * 6)))), .val (.pointer (some ⟨(ad.add (i * 6)).block, (ad.add (i * 6)).off + 3, none⟩)), .val (.slice (some ad3) rl.f3.length c3), .val (.int .i64 k), .val (.pointer (some (ad3.add (k * 4)))), .val (.agg #[.string q.f0, .string q.f1, .string q.f2, .int .i64 q.f3]), .val (.agg (scV x user name mem lev)), .val (.bool hq), .val (.bool hq), .val (.bool hq)]
set_option maxRecDepth 100000 in
set_option maxHeartbeats 8000000 in
theorem pushFirst_calls (A : Option Addr) (c : Nat) (l : List RL) (x : EvV) (user name : ByteArray) (mem lev : Int) (w : World) (hT : Tabs w) (hN : Near x) (hr : Kd.C k47 w A l.length l) (hc : l.length ≤ c) (hx : x.OkR w) :
    Calls Tryz.prog 6 #[.slice A l.length c, .agg (scV x user name mem lev)] w fun e w' => e = .returned (.bool true) ∧ Below w.heap.size w w' := by
  have hG : Giv A c l x w := ⟨hT, hr, hc, hx⟩
  obtain ⟨b, hb, hfew⟩ := few_c x user name mem lev l hN
  have HFew := Lib.hid (fun W (h : Below w.heap.size w W) => hfew A c W (hG.below h))
  have HAw := Lib.hid (fun W (h : Below w.heap.size w W) => awake_c W (hT.below h))
  have HG := Lib.hid hG
  have HFd := Lib.hid (fun (f : FewIs l x name) W (h : Below w.heap.size w W) => find_c x user name mem lev f.small f.name l f.rulesSmall A c W (hG.below h))
  have HHo := Lib.hid (fun (f : FewIs l x name) q (hq : q.f2.size ≤ 60) W (h : Below w.heap.size w W) => holds_c x user name mem lev f.small f.name q hq W (hT.below h) (hx.below h))
  have hcl : l.length ≤ c := hc
  clear hfew hT hr hc hx hG
  have hu := Tryz.underlying32
  go_enter Tryz.func6, Tryz.ntmps6
  go_wp2_with (first | ((with_reducible refine gate_dst (N := 3) rfl ?_); refine box_event ?hg (N := 3) ?hd (cs := scV x user name mem lev) (t := 32) ?hr ?_; (case hd => rfl); (case hg => rfl); (case hr => first | (go_simp; done) | (go_simp; rfl)); intro g3 hg3 w3 hk3 hb3; (have hn3 : w.heap.size ≤ g3 := Nat.le_of_eq hg3.symm); have HK3 := Lib.hid hk3; have HB3 := Lib.hid hb3; have HN3 := Lib.hid hn3; clear hk3 hb3 hg3 hn3) | ((with_reducible refine gate_dst (N := 11) rfl ?_); refine wpList_load_row rfl 32 (.tmp 3) rfl g3 rfl 32 (scV x user name mem lev) (0, 0) _ HK3.out hu rfl (by kernel_rfl) ?_))
  refine (HFew.out _ HB3.out).mono ?_
  rintro e w4 ⟨rfl, hb4⟩
  have HB4 := Lib.hid (below_step HB3.out hb4)
  have HK4 := Lib.hid (blk_below HK3.out hb4)
  clear HFew HB3 HK3 hb4
  cases b with
  | false =>
    clear hb
    go_wp2
    go_ret
    exact ⟨rfl, HB4.out⟩
  | true =>
  have hf := hb rfl
  have h15 := hf.len
  have p2 : w4.cell? ⟨g3, 2, none⟩ = some (.string x.sender) := (blk_cell HK4.out 2).trans rfl
  have p16 : w4.cell? ⟨g3, 16, none⟩ = some (.string user) := (blk_cell HK4.out 16).trans rfl
  by_cases h0 : x.sender.toList = user.toList
  · have b0 : (x.sender.toList == user.toList) = true := by simp [h0]
    clear hb h0
    go_wp2
    go_ret
    exact ⟨rfl, HB4.out⟩
  have b0 : (x.sender.toList == user.toList) = false := by simp [h0]
  have hF := first_law l x user name mem lev h0
  clear h0 hb
  go_wp2_with (first | ((with_reducible refine gate_dst (N := 24) rfl ?_); refine wpList_load_row rfl 32 (.tmp 3) rfl g3 rfl 32 (scV x user name mem lev) (0, 0) _ HK4.out hu rfl (by kernel_rfl) ?_))
  refine (HFd.out hf _ HB4.out).mono ?_
  rintro e w5 ⟨rfl, hb5⟩
  have HB5 := Lib.hid (below_step HB4.out hb5)
  have HK5 := Lib.hid (blk_below HK4.out hb5)
  clear HFd HB4 HK4 hb5 p2 p16
  generalize findB l x user name mem lev = r at hF ⊢
  have HF := Lib.hid hF
  clear hF
  have hcell : ∀ W, Below w.heap.size w W → ∀ (i : Nat) (h : i < l.length), ∃ ad A3 c3, A = some ad ∧ W.cell? (ad.add (i * 6)) = some (.int .i64 l[i].f0) ∧ W.cell? ⟨(ad.add (i * 6)).block, (ad.add (i * 6)).off + 2, none⟩ = some (.bool l[i].f2) ∧ W.cell? ⟨(ad.add (i * 6)).block, (ad.add (i * 6)).off + 3, none⟩ = some (.slice A3 l[i].f3.length c3) ∧ l[i].f3.length ≤ c3 ∧ Kd.C k23 W A3 l[i].f3.length l[i].f3 := by
    intro W hb i h
    obtain ⟨ad, A3, c3, e, q0, q1, q2, q3, q4, q5, hl, hC⟩ := at_T47 (HG.out.below hb).hr (i : Int) (by omega) (by omega)
    rw [show rd_T47 l (i : Int) = l[i] by simp [rd_T47, h], Int.toNat_natCast] at *
    exact ⟨ad, A3, c3, e, q0, q2, q3, hl, hC⟩
  have HCell := Lib.hid hcell
  clear hcell
  rcases HF.out with ⟨hr2, hall⟩ | ⟨j, hj, rfl, hok, hall⟩
  · obtain ⟨at_, ok⟩ := r
    have e2 : ok = false := hr2
    subst e2
    have HAll := Lib.hid hall
    clear hr2 hall HF
    go_wp2
    go_loopw [7] (fun vi wr => ∃ i : Nat, i ≤ l.length ∧ vi = .int .i64 i ∧ Hid (Below w.heap.size w wr) ∧ Hid (SB g3 x user name mem lev wr)) (fun vi _ => l.length - (intOf vi).toNat)
    case atStart => exact ⟨0, Nat.zero_le _, rfl, HB5, HK5⟩
    case round =>
      obtain ⟨i, hi, rfl, HB, HK⟩ := hrel
      clear HB5 HK5
      by_cases h1 : i < l.length
      · have b1 : decide ((i : Int) < (l.length : Int)) = true := decide_eq_true (by omega)
        obtain ⟨ad, A3, c3, hA, q0, q2, q3, hl3, hC3⟩ := HCell.out wr HB.out i h1
        subst hA
        go_wp2
        obtain ⟨rl, hrl⟩ : ∃ rl, rl = l[i] := ⟨_, rfl⟩
        have hrf : RuleFits rl := by rw [hrl]; exact hf.rules _ (List.getElem_mem h1)
        have h6 := hrf.1
        have hst : (!l[i].f2) = holdsTo x name mem lev rl 0 := by rw [hrl]; simp [holdsTo]
        rw [hst]
        have HRow := Lib.hid (fun W hb => HCell.out W hb i h1)
        rw [← hrl] at HRow
        have HA0 := Lib.hid (HAll.out i h1)
        rw [← hrl] at HA0
        clear hrl hst q0 q2 q3 hl3 hC3 b1
        go_loopw [8, 9] (fun v8 v9 wq => ∃ k : Nat, k ≤ rl.f3.length ∧ v8 = .bool (holdsTo x name mem lev rl k) ∧ v9 = .int .i64 k ∧ Hid (Below w.heap.size w wq) ∧ Hid (SB g3 x user name mem lev wq)) (fun _ v9 _ => rl.f3.length - (intOf v9).toNat)
        case atStart => exact ⟨0, Nat.zero_le _, rfl, rfl, HB, HK⟩
        case round =>
          clear HB HK
          obtain ⟨k, hk, rfl, rfl, HB, HK⟩ := hrel
          obtain ⟨ad', A3, c3, hA, q0, q2, q3, hl3, hC3⟩ := HRow.out wr HB.out
          injection hA with hA
          subst hA
          by_cases h2 : k < rl.f3.length
          · have b2 : decide ((k : Int) < (rl.f3.length : Int)) = true := decide_eq_true (by omega)
            have hsu := holdsTo_succ x name mem lev rl k h2
            have i1 : (i : Int) < (l.length : Int) := by omega
            cases hv : holdsTo x name mem lev rl k with
            | false =>
              rw [hv, Bool.false_and] at hsu
              go_wp2
              go_quiet (fail)
              go_wp2
              go_roundw
              case rel => exact ⟨k + 1, by omega, by rw [hsu], by simp, Lib.hid (pw_below_drewN HB.out _), Lib.hid (blk_drewN HK.out _)⟩
              case measure => simp [intOf]; omega
            | true =>
              rw [hv, Bool.true_and] at hsu
              obtain ⟨ad3, hA3, d0, d1, d2, d3⟩ := at_T23 hC3 (k : Int) (by omega) (by omega)
              obtain ⟨q, hq0⟩ : ∃ q, q = rl.f3[k] := ⟨_, rfl⟩
              have hqs : q.f2.size ≤ 60 := by rw [hq0]; exact hrf.2 _ (List.getElem_mem h2)
              rw [show rd_T23 rl.f3 (k : Int) = q by rw [hq0]; simp [rd_T23, h2], Int.toNat_natCast] at *
              rw [← hq0] at hsu
              subst hA3
              have I1 := Lib.hid i1
              go_wp2
              have Q3 := Lib.hid q3; have G0 := Lib.hid d0; have G1 := Lib.hid d1; have G2 := Lib.hid d2; have G3 := Lib.hid d3
              have I2 := Lib.hid (show (k : Int) < (rl.f3.length : Int) by omega)
              have HQ := Lib.hid (HHo.out hf q hqs)
              have HS := Lib.hid (congrArg Value.bool hsu).symm
              clear q0 q2 q3 d0 d1 d2 d3 i1 hsu hq0 hqs b2
              generalize holdsB q.f0 q.f1 q.f2 q.f3 x name mem lev = hq at HQ HS
              refine wp_region_flat _ pf13FD (pf13FS x user name mem lev c l ad i ad3 rl c3 k q hq) (by kernel_rfl) (by kernel_rfl) (by kernel_rfl) (by kernel_rfl) rfl ?_ ?_
              · refine ⟨?p0, ?p1, ?p2, ?p3, ?p4, ?p5, ?p6, ?p7, ?p8, ?p9, ?p10, ?p11, ?p12, ?p13, trivial⟩
                case p0 =>
                  intro _ a w2 hb hk hd hkp K hK
                  have h8 : a.tmps[8]?.getD undef = .bool true := ev_of ((hkp 13 (by decide) (by kernel_rfl)).trans rfl)
                  unfold Oper.wp
                  go_simp
                  exact hK _ _ rfl (Below.refl _ _)
                case p1 =>
                  intro _ a w2 hb hk hd hkp K hK
                  have h61 : a.tmps[61]?.getD undef = .bool true := ev_of (hd 0 (by decide) (by kernel_rfl))
                  unfold Oper.wp
                  go_simp
                  exact hK _ _ rfl (Below.refl _ _)
                case p2 =>
                  intro _ a w2 hb hk hd hkp K hK
                  have h0 : a.tmps[0]?.getD undef = .slice (some ad) l.length c := ev_of ((hk 0 (show ∀ i, i < 14 → gslot pf13FD i ≠ 0 by decide)).trans rfl)
                  unfold Oper.wp
                  go_simp
                  exact hK _ _ rfl (Below.refl _ _)
                case p3 =>
                  intro _ a w2 hb hk hd hkp K hK
                  have h7 : a.tmps[7]?.getD undef = .int .i64 i := ev_of ((hk 7 (show ∀ i, i < 14 → gslot pf13FD i ≠ 7 by decide)).trans rfl)
                  unfold Oper.wp
                  go_simp
                  exact hK _ _ rfl (Below.refl _ _)
                case p4 =>
                  intro _ a w2 hb hk hd hkp K hK
                  have h63 : a.tmps[63]?.getD undef = .slice (some ad) l.length c := ev_of (hd 2 (by decide) (by kernel_rfl))
                  have h64 : a.tmps[64]?.getD undef = .int .i64 i := ev_of (hd 3 (by decide) (by kernel_rfl))
                  have i0 : (0 : Int) ≤ (i : Int) := Int.natCast_nonneg _
                  have i1 := I1.out
                  unfold Oper.wp
                  go_simp
                  exact hK _ _ rfl (Below.refl _ _)
                case p5 =>
                  intro _ a w2 hb hk hd hkp K hK
                  have h65 : a.tmps[65]?.getD undef = .pointer (some (ad.add (i * 6))) := ev_of (hd 4 (by decide) (by kernel_rfl))
                  unfold Oper.wp
                  go_simp
                  exact hK _ _ rfl (Below.refl _ _)
                case p6 =>
                  intro _ a w2 hb hk hd hkp K hK
                  have h66 : a.tmps[66]?.getD undef = .pointer (some ⟨(ad.add (i * 6)).block, (ad.add (i * 6)).off + 3, none⟩) := ev_of (hd 5 (by decide) (by kernel_rfl))
                  have c1 := pw_cell_below (w := wr.drew) hb Q3.out
                  unfold Oper.wp
                  go_simp
                  exact hK _ _ rfl (Below.refl _ _)
                case p7 =>
                  intro _ a w2 hb hk hd hkp K hK
                  have h9 : a.tmps[9]?.getD undef = .int .i64 k := ev_of ((hk 9 (show ∀ i, i < 14 → gslot pf13FD i ≠ 9 by decide)).trans rfl)
                  unfold Oper.wp
                  go_simp
                  exact hK _ _ rfl (Below.refl _ _)
                case p8 =>
                  intro _ a w2 hb hk hd hkp K hK
                  have h67 : a.tmps[67]?.getD undef = .slice (some ad3) rl.f3.length c3 := ev_of (hd 6 (by decide) (by kernel_rfl))
                  have h68 : a.tmps[68]?.getD undef = .int .i64 k := ev_of (hd 7 (by decide) (by kernel_rfl))
                  have i0 : (0 : Int) ≤ (k : Int) := Int.natCast_nonneg _
                  have i1 := I2.out
                  unfold Oper.wp
                  go_simp
                  exact hK _ _ rfl (Below.refl _ _)
                case p9 =>
                  intro _ a w2 hb hk hd hkp K hK
                  have h69 : a.tmps[69]?.getD undef = .pointer (some (ad3.add (k * 4))) := ev_of (hd 8 (by decide) (by kernel_rfl))
                  have c0 := pw_cell_below (w := wr.drew) hb G0.out
                  have c1 := pw_cell_below (w := wr.drew) hb G1.out
                  have c2 := pw_cell_below (w := wr.drew) hb G2.out
                  have c3 := pw_cell_below (w := wr.drew) hb G3.out
                  unfold Oper.wp
                  go_simp
                  exact hK _ _ rfl (Below.refl _ _)
                case p10 =>
                  intro _ a w2 hb hk hd hkp K hK
                  have e3 : a.eval (.tmp 3) = .pointer (some ⟨g3, 0, none⟩) := (hk 3 (show ∀ i, i < 14 → gslot pf13FD i ≠ 3 by decide)).trans rfl
                  have hkk := blk_below (w := wr.drew) HK.out hb
                  exact wp_load_row 32 (.tmp 3) rfl g3 e3 32 (scV x user name mem lev) (0, 0) _ (blk_below (w := wr.drew) HK.out hb) hu rfl (by kernel_rfl) (hK _ _ rfl (Below.refl _ _))
                case p11 =>
                  intro _ a w2 hb hk hd hkp K hK
                  have h70 : a.tmps[70]?.getD undef = .agg #[.string q.f0, .string q.f1, .string q.f2, .int .i64 q.f3] := ev_of (hd 9 (by decide) (by kernel_rfl))
                  have h71 : a.tmps[71]?.getD undef = .agg (scV x user name mem lev) := ev_of (hd 10 (by decide) (by kernel_rfl))
                  unfold Oper.wp
                  go_simp
                  refine (HQ.out _ (below_step (below_drew1 HB.out) hb)).mono ?_
                  rintro e w3 ⟨rfl, hb3⟩
                  exact hK _ _ rfl hb3
                case p12 =>
                  intro _ a w2 hb hk hd hkp K hK
                  have h62 : a.tmps[62]?.getD undef = .bool true := ev_of (hd 1 (by decide) (by kernel_rfl))
                  have h72 : a.tmps[72]?.getD undef = .bool hq := ev_of (hd 11 (by decide) (by kernel_rfl))
                  unfold Oper.wp
                  go_simp
                  exact hK _ _ rfl (Below.refl _ _)
                case p13 =>
                  intro _ a w2 hb hk hd hkp K hK
                  have h73 : a.tmps[73]?.getD undef = .bool hq := ev_of (hd 12 (by decide) (by kernel_rfl))
                  unfold Oper.wp
                  go_simp
                  exact hK _ _ rfl (Below.refl _ _)
              · intro w5 hb5
                dsimp only [puts, pf13FD, pf13FS, Spec.value]
                simp only [Act.put, List.setIfInBounds_toArray, List.set_cons_succ, List.set_cons_zero]
                have HB6 := Lib.hid (below_step HB.out hb5)
                have HK6 := Lib.hid (blk_below HK.out hb5)
                go_wp2
                go_roundw
                case rel => exact ⟨k + 1, by omega, HS.out, by simp, HB6, HK6⟩
                case measure => simp [intOf]; omega
          · obtain rfl : k = rl.f3.length := by omega
            have b2 : decide ((rl.f3.length : Int) < (rl.f3.length : Int)) = false := decide_eq_false (by omega)
            rw [holdsTo_all, HA0.out]
            go_wp2
            go_quiet (fail)
            go_wp2
            go_roundw
            case rel => exact ⟨i + 1, by omega, by simp, Lib.hid (pw_below_drewN HB.out _), Lib.hid (blk_drewN HK.out _)⟩
            case measure => simp [intOf]; omega
      · obtain rfl : i = l.length := by omega
        have b1 : decide ((l.length : Int) < (l.length : Int)) = false := decide_eq_false (by omega)
        go_wp2_with (go_at_call 13; refine (HAw.out _ HB.out).mono ?_; rintro e w9 ⟨rfl, hb9⟩; have HB9 := Lib.hid (below_step HB.out hb9); clear hb9)
        go_ret
        exact ⟨rfl, HB9.out⟩
  · have i2 : (j : Int) < (l.length : Int) := by omega
    have j1 : decide ((j : Int) < 0) = false := decide_eq_false (by omega)
    have j2 : decide ((l.length : Int) ≤ (j : Int)) = false := decide_eq_false (by omega)
    have HOK := Lib.hid hok
    have HAll := Lib.hid hall
    obtain ⟨cj, hcj⟩ : ∃ cj, cj = l[j].f0 := ⟨_, rfl⟩
    have HCJ := Lib.hid hcj
    clear hok hall HF hcj
    go_wp2
    go_loopw [7] (fun vi wr => ∃ i : Nat, i ≤ l.length ∧ vi = .int .i64 i ∧ Hid (Below w.heap.size w wr) ∧ Hid (SB g3 x user name mem lev wr)) (fun vi _ => l.length - (intOf vi).toNat)
    case atStart => exact ⟨0, Nat.zero_le _, rfl, HB5, HK5⟩
    case round =>
      obtain ⟨i, hi, rfl, HB, HK⟩ := hrel
      clear HB5 HK5
      by_cases h1 : i < l.length
      · have b1 : decide ((i : Int) < (l.length : Int)) = true := decide_eq_true (by omega)
        obtain ⟨ad, A3, c3, hA, q0, q2, q3, hl3, hC3⟩ := HCell.out wr HB.out i h1
        subst hA
        go_wp2
        obtain ⟨rl, hrl⟩ : ∃ rl, rl = l[i] := ⟨_, rfl⟩
        have hrf : RuleFits rl := by rw [hrl]; exact hf.rules _ (List.getElem_mem h1)
        have h6 := hrf.1
        have hst : (!l[i].f2) = holdsTo x name mem lev rl 0 := by rw [hrl]; simp [holdsTo]
        rw [hst]
        have HRow := Lib.hid (fun W hb => HCell.out W hb i h1)
        rw [← hrl] at HRow
        have hs1 : (ruleOk x name mem lev l[i] = false → i ≠ j) ∧ (i = j → l[i].f0 = cj) ∧ (ruleOk x name mem lev l[i] = true → i ≠ j → cj < l[i].f0 ∨ cj = l[i].f0 ∧ j < i) :=
          ⟨(fun h e => by subst e; rw [HOK.out] at h; cases h), (fun e => by subst e; exact HCJ.out.symm), (fun h e => (HAll.out i h1 h).elim (fun r => absurd r e) (fun r => r.elim (fun r => .inl (by rw [HCJ.out]; exact r)) (fun r => .inr ⟨by rw [HCJ.out]; exact r.1, r.2⟩)))⟩
        have HS1 := Lib.hid hs1
        rw [← hrl] at HS1
        clear hs1
        clear hrl hst q0 q2 q3 hl3 hC3 b1
        go_loopw [8, 9] (fun v8 v9 wq => ∃ k : Nat, k ≤ rl.f3.length ∧ v8 = .bool (holdsTo x name mem lev rl k) ∧ v9 = .int .i64 k ∧ Hid (Below w.heap.size w wq) ∧ Hid (SB g3 x user name mem lev wq)) (fun _ v9 _ => rl.f3.length - (intOf v9).toNat)
        case atStart => exact ⟨0, Nat.zero_le _, rfl, rfl, HB, HK⟩
        case round =>
          clear HB HK
          obtain ⟨k, hk, rfl, rfl, HB, HK⟩ := hrel
          obtain ⟨ad', A3, c3, hA, q0, q2, q3, hl3, hC3⟩ := HRow.out wr HB.out
          injection hA with hA
          subst hA
          by_cases h2 : k < rl.f3.length
          · have b2 : decide ((k : Int) < (rl.f3.length : Int)) = true := decide_eq_true (by omega)
            have hsu := holdsTo_succ x name mem lev rl k h2
            have i1 : (i : Int) < (l.length : Int) := by omega
            cases hv : holdsTo x name mem lev rl k with
            | false =>
              rw [hv, Bool.false_and] at hsu
              go_wp2
              go_quiet (fail)
              go_wp2
              go_roundw
              case rel => exact ⟨k + 1, by omega, by rw [hsu], by simp, Lib.hid (pw_below_drewN HB.out _), Lib.hid (blk_drewN HK.out _)⟩
              case measure => simp [intOf]; omega
            | true =>
              rw [hv, Bool.true_and] at hsu
              obtain ⟨ad3, hA3, d0, d1, d2, d3⟩ := at_T23 hC3 (k : Int) (by omega) (by omega)
              obtain ⟨q, hq0⟩ : ∃ q, q = rl.f3[k] := ⟨_, rfl⟩
              have hqs : q.f2.size ≤ 60 := by rw [hq0]; exact hrf.2 _ (List.getElem_mem h2)
              rw [show rd_T23 rl.f3 (k : Int) = q by rw [hq0]; simp [rd_T23, h2], Int.toNat_natCast] at *
              rw [← hq0] at hsu
              subst hA3
              have I1 := Lib.hid i1
              go_wp2
              have Q3 := Lib.hid q3; have G0 := Lib.hid d0; have G1 := Lib.hid d1; have G2 := Lib.hid d2; have G3 := Lib.hid d3
              have I2 := Lib.hid (show (k : Int) < (rl.f3.length : Int) by omega)
              have HQ := Lib.hid (HHo.out hf q hqs)
              have HS := Lib.hid (congrArg Value.bool hsu).symm
              clear q0 q2 q3 d0 d1 d2 d3 i1 hsu hq0 hqs b2
              generalize holdsB q.f0 q.f1 q.f2 q.f3 x name mem lev = hq at HQ HS
              refine wp_region_flat _ pf13TD (pf13TS x user name mem lev c l ad i ad3 rl c3 k q hq) (by kernel_rfl) (by kernel_rfl) (by kernel_rfl) (by kernel_rfl) rfl ?_ ?_
              · refine ⟨?p0, ?p1, ?p2, ?p3, ?p4, ?p5, ?p6, ?p7, ?p8, ?p9, ?p10, ?p11, ?p12, ?p13, trivial⟩
                case p0 =>
                  intro _ a w2 hb hk hd hkp K hK
                  have h8 : a.tmps[8]?.getD undef = .bool true := ev_of ((hkp 13 (by decide) (by kernel_rfl)).trans rfl)
                  unfold Oper.wp
                  go_simp
                  exact hK _ _ rfl (Below.refl _ _)
                case p1 =>
                  intro _ a w2 hb hk hd hkp K hK
                  have h61 : a.tmps[61]?.getD undef = .bool true := ev_of (hd 0 (by decide) (by kernel_rfl))
                  unfold Oper.wp
                  go_simp
                  exact hK _ _ rfl (Below.refl _ _)
                case p2 =>
                  intro _ a w2 hb hk hd hkp K hK
                  have h0 : a.tmps[0]?.getD undef = .slice (some ad) l.length c := ev_of ((hk 0 (show ∀ i, i < 14 → gslot pf13TD i ≠ 0 by decide)).trans rfl)
                  unfold Oper.wp
                  go_simp
                  exact hK _ _ rfl (Below.refl _ _)
                case p3 =>
                  intro _ a w2 hb hk hd hkp K hK
                  have h7 : a.tmps[7]?.getD undef = .int .i64 i := ev_of ((hk 7 (show ∀ i, i < 14 → gslot pf13TD i ≠ 7 by decide)).trans rfl)
                  unfold Oper.wp
                  go_simp
                  exact hK _ _ rfl (Below.refl _ _)
                case p4 =>
                  intro _ a w2 hb hk hd hkp K hK
                  have h63 : a.tmps[63]?.getD undef = .slice (some ad) l.length c := ev_of (hd 2 (by decide) (by kernel_rfl))
                  have h64 : a.tmps[64]?.getD undef = .int .i64 i := ev_of (hd 3 (by decide) (by kernel_rfl))
                  have i0 : (0 : Int) ≤ (i : Int) := Int.natCast_nonneg _
                  have i1 := I1.out
                  unfold Oper.wp
                  go_simp
                  exact hK _ _ rfl (Below.refl _ _)
                case p5 =>
                  intro _ a w2 hb hk hd hkp K hK
                  have h65 : a.tmps[65]?.getD undef = .pointer (some (ad.add (i * 6))) := ev_of (hd 4 (by decide) (by kernel_rfl))
                  unfold Oper.wp
                  go_simp
                  exact hK _ _ rfl (Below.refl _ _)
                case p6 =>
                  intro _ a w2 hb hk hd hkp K hK
                  have h66 : a.tmps[66]?.getD undef = .pointer (some ⟨(ad.add (i * 6)).block, (ad.add (i * 6)).off + 3, none⟩) := ev_of (hd 5 (by decide) (by kernel_rfl))
                  have c1 := pw_cell_below (w := wr.drew) hb Q3.out
                  unfold Oper.wp
                  go_simp
                  exact hK _ _ rfl (Below.refl _ _)
                case p7 =>
                  intro _ a w2 hb hk hd hkp K hK
                  have h9 : a.tmps[9]?.getD undef = .int .i64 k := ev_of ((hk 9 (show ∀ i, i < 14 → gslot pf13TD i ≠ 9 by decide)).trans rfl)
                  unfold Oper.wp
                  go_simp
                  exact hK _ _ rfl (Below.refl _ _)
                case p8 =>
                  intro _ a w2 hb hk hd hkp K hK
                  have h67 : a.tmps[67]?.getD undef = .slice (some ad3) rl.f3.length c3 := ev_of (hd 6 (by decide) (by kernel_rfl))
                  have h68 : a.tmps[68]?.getD undef = .int .i64 k := ev_of (hd 7 (by decide) (by kernel_rfl))
                  have i0 : (0 : Int) ≤ (k : Int) := Int.natCast_nonneg _
                  have i1 := I2.out
                  unfold Oper.wp
                  go_simp
                  exact hK _ _ rfl (Below.refl _ _)
                case p9 =>
                  intro _ a w2 hb hk hd hkp K hK
                  have h69 : a.tmps[69]?.getD undef = .pointer (some (ad3.add (k * 4))) := ev_of (hd 8 (by decide) (by kernel_rfl))
                  have c0 := pw_cell_below (w := wr.drew) hb G0.out
                  have c1 := pw_cell_below (w := wr.drew) hb G1.out
                  have c2 := pw_cell_below (w := wr.drew) hb G2.out
                  have c3 := pw_cell_below (w := wr.drew) hb G3.out
                  unfold Oper.wp
                  go_simp
                  exact hK _ _ rfl (Below.refl _ _)
                case p10 =>
                  intro _ a w2 hb hk hd hkp K hK
                  have e3 : a.eval (.tmp 3) = .pointer (some ⟨g3, 0, none⟩) := (hk 3 (show ∀ i, i < 14 → gslot pf13TD i ≠ 3 by decide)).trans rfl
                  have hkk := blk_below (w := wr.drew) HK.out hb
                  exact wp_load_row 32 (.tmp 3) rfl g3 e3 32 (scV x user name mem lev) (0, 0) _ (blk_below (w := wr.drew) HK.out hb) hu rfl (by kernel_rfl) (hK _ _ rfl (Below.refl _ _))
                case p11 =>
                  intro _ a w2 hb hk hd hkp K hK
                  have h70 : a.tmps[70]?.getD undef = .agg #[.string q.f0, .string q.f1, .string q.f2, .int .i64 q.f3] := ev_of (hd 9 (by decide) (by kernel_rfl))
                  have h71 : a.tmps[71]?.getD undef = .agg (scV x user name mem lev) := ev_of (hd 10 (by decide) (by kernel_rfl))
                  unfold Oper.wp
                  go_simp
                  refine (HQ.out _ (below_step (below_drew1 HB.out) hb)).mono ?_
                  rintro e w3 ⟨rfl, hb3⟩
                  exact hK _ _ rfl hb3
                case p12 =>
                  intro _ a w2 hb hk hd hkp K hK
                  have h62 : a.tmps[62]?.getD undef = .bool true := ev_of (hd 1 (by decide) (by kernel_rfl))
                  have h72 : a.tmps[72]?.getD undef = .bool hq := ev_of (hd 11 (by decide) (by kernel_rfl))
                  unfold Oper.wp
                  go_simp
                  exact hK _ _ rfl (Below.refl _ _)
                case p13 =>
                  intro _ a w2 hb hk hd hkp K hK
                  have h73 : a.tmps[73]?.getD undef = .bool hq := ev_of (hd 12 (by decide) (by kernel_rfl))
                  unfold Oper.wp
                  go_simp
                  exact hK _ _ rfl (Below.refl _ _)
              · intro w5 hb5
                dsimp only [puts, pf13TD, pf13TS, Spec.value]
                simp only [Act.put, List.setIfInBounds_toArray, List.set_cons_succ, List.set_cons_zero]
                have HB6 := Lib.hid (below_step HB.out hb5)
                have HK6 := Lib.hid (blk_below HK.out hb5)
                go_wp2
                go_roundw
                case rel => exact ⟨k + 1, by omega, HS.out, by simp, HB6, HK6⟩
                case measure => simp [intOf]; omega
          · obtain rfl : k = rl.f3.length := by omega
            have b2 : decide ((rl.f3.length : Int) < (rl.f3.length : Int)) = false := decide_eq_false (by omega)
            obtain ⟨adj, Aj, cj3, hAj, p0, -⟩ := HCell.out wr HB.out j hj
            injection hAj with hAj
            subst hAj
            rw [← HCJ.out] at p0
            rw [holdsTo_all]
            have hS := HS1.out
            cases hv : ruleOk x name mem lev rl with
            | false =>
              have hne : i ≠ j := hS.1 hv
              have z1 : decide ((i : Int) = (j : Int)) = false := decide_eq_false (by omega)
              have z2 : ((i : Int) == (j : Int)) = false := by simp; omega
              clear hS hv
              go_wp2
              go_quiet (fail)
              go_wp2
              go_roundw
              case rel => exact ⟨i + 1, by omega, by simp, Lib.hid (pw_below_drewN HB.out _), Lib.hid (blk_drewN HK.out _)⟩
              case measure => simp [intOf]; omega
            | true =>
              by_cases hij : i = j
              · have hcc : rl.f0 = cj := (HS1.out).2.1 hij
                have z1 : decide ((i : Int) = (j : Int)) = true := decide_eq_true (by rw [hij])
                have z2 : ((i : Int) == (j : Int)) = true := by rw [hij]; simp
                have z3 : decide (rl.f0 < cj) = false := decide_eq_false (by omega)
                have z4 : decide (rl.f0 = cj) = true := decide_eq_true hcc
                have z5 : (rl.f0 == cj) = true := by simp [hcc]
                have z6 : decide ((i : Int) < (j : Int)) = false := decide_eq_false (by omega)
                have z7 : decide (i < j) = false := decide_eq_false (by omega)
                clear hS hv hcc hij
                go_wp2
                go_quiet (fail)
                go_wp2
                go_roundw
                case rel => exact ⟨i + 1, by omega, by simp, Lib.hid (pw_below_drewN HB.out _), Lib.hid (blk_drewN HK.out _)⟩
                case measure => simp [intOf]; omega
              · have hor := (HS1.out).2.2 hv hij
                have z1 : decide ((i : Int) = (j : Int)) = false := decide_eq_false (by omega)
                have z2 : ((i : Int) == (j : Int)) = false := by simp; omega
                have z3 : decide (rl.f0 < cj) = false := decide_eq_false (by omega)
                by_cases hcc : rl.f0 = cj
                · have z4 : decide (rl.f0 = cj) = true := decide_eq_true hcc
                  have z5 : (rl.f0 == cj) = true := by simp [hcc]
                  have z6 : decide ((i : Int) < (j : Int)) = false := decide_eq_false (by omega)
                  have z7 : decide (i < j) = false := decide_eq_false (by omega)
                  clear hS hv hcc hor
                  go_wp2
                  go_quiet (fail)
                  go_wp2
                  go_roundw
                  case rel => exact ⟨i + 1, by omega, by simp, Lib.hid (pw_below_drewN HB.out _), Lib.hid (blk_drewN HK.out _)⟩
                  case measure => simp [intOf]; omega
                · have z4 : decide (rl.f0 = cj) = false := decide_eq_false hcc
                  have z5 : (rl.f0 == cj) = false := by simp [hcc]
                  clear hS hv hcc hor
                  go_wp2
                  go_quiet (fail)
                  go_wp2
                  go_roundw
                  case rel => exact ⟨i + 1, by omega, by simp, Lib.hid (pw_below_drewN HB.out _), Lib.hid (blk_drewN HK.out _)⟩
                  case measure => simp [intOf]; omega
      · obtain rfl : i = l.length := by omega
        have b1 : decide ((l.length : Int) < (l.length : Int)) = false := decide_eq_false (by omega)
        go_wp2_with (go_at_call 13; refine (HAw.out _ HB.out).mono ?_; rintro e w9 ⟨rfl, hb9⟩; have HB9 := Lib.hid (below_step HB.out hb9); clear hb9)
        go_ret
        exact ⟨rfl, HB9.out⟩
end Go.Proofs.YtodhmbnfliajiaaGreatDoor.Q
