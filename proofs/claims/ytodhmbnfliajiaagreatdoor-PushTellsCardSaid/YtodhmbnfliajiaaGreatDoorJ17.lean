/- Merged out of: HandPushHolds, HandPushTells. -/
import Derived.WalkKit
import Derived.WalkSpells
import Derived.Deep.LoopGhost
import Derived.Lib.Hide
import Derived.BigQuiet
import Derived.Deep.QuietTactic
import Derived.Test.YtodhmbnfliajiaaGreatDoorJ16
import Derived.Test.YtodhmbnfliajiaaGreatDoorPureGuards
import Derived.Test.YtodhmbnfliajiaaGreatDoorQx0
import Derived.Test.YtodhmbnfliajiaaGreatDoorQx3
import Derived.Test.YtodhmbnfliajiaaGreatDoorJ7
import Derived.Test.YtodhmbnfliajiaaGreatDoorHandRefFind
/- HandPushHolds: a text of this claim's proof, as printed or written, without what the claim does not use. -/
namespace Go.Proofs.YtodhmbnfliajiaaGreatDoor.Q
open Go.RowKit Go.Proofs.YtodhmbnfliajiaaGreatDoorW.PrintWords Go.Proofs.YtodhmbnfliajiaaGreatDoorW.PrintLast Go.Proofs.YtodhmbnfliajiaaGreatDoorW.PrintMore
set_option linter.unusedVariables false
set_option linter.unusedSimpArgs false
def ph3D : List Nat := [13, 14, 15, 16, 17, 18, 19, 20, 21, 22, 4]
def ph3S (x : EvV) (user name : ByteArray) (mem lev : Int) (q : S23) (hq : Bool) : List Spec := [.val (.agg #[.string q.f0, .string q.f1, .string q.f2, .int .i64 q.f3]), .val (.agg (scV x user name mem lev)), .val (.bool hq), .val (.agg #[.string q.f0, .string q.f1, .string q.f2, .int .i64 q.f3]), .val (.agg (scV x user name mem lev)), .val (.bool hq), .val (.bool true), .val (.bool true), .val (.bool true), .val (.bool true), .val (.bool true)]
theorem small_c (q : S23) : ∃ b, (b = true → q.f2.size ≤ 60) ∧ ∀ w, Calls Tryz.prog 10 #[.agg #[.string q.f0, .string q.f1, .string q.f2, .int .i64 q.f3]] w fun e w' => e = .returned (.bool b) ∧ Below w.heap.size w w' := by
  obtain ⟨b, e, h⟩ := small_total q.f0 q.f1 q.f2 q.f3
  exact ⟨b, h, fun w => (agoralaw27_small.calls q.f0 q.f1 q.f2 q.f3 b w e).mono fun e w' h => ⟨h.1, h.2⟩⟩
set_option maxRecDepth 100000 in
set_option maxHeartbeats 8000000 in
theorem pushHolds_calls (q : S23) (x : EvV) (user name : ByteArray) (mem lev : Int) (w : World) (hT : Tabs w) (hN : Near x) (hx : x.OkR w) :
    Calls Tryz.prog 3 #[.agg #[.string q.f0, .string q.f1, .string q.f2, .int .i64 q.f3], .agg (scV x user name mem lev)] w fun e w' => e = .returned (.bool true) ∧ Below w.heap.size w w' := by
  have hG : Giv none 0 [] x w := ⟨hT, C_nil _ _ _, Nat.le_refl _, hx⟩
  obtain ⟨b, hb, hfew⟩ := few_c x user name mem lev [] hN
  obtain ⟨bs, hbs, hsm⟩ := small_c q
  have HFew := Lib.hid (fun W (h : Below w.heap.size w W) => hfew none 0 W (hG.below h))
  have HAw := Lib.hid (fun W (h : Below w.heap.size w W) => awake_c W (hT.below h))
  have HHo := Lib.hid (fun (f : FewIs [] x name) (hq : q.f2.size ≤ 60) W (h : Below w.heap.size w W) => holds_c x user name mem lev f.small f.name q hq W (hT.below h) (hx.below h))
  have HHr := Lib.hid (fun (f : FewIs [] x name) (hq : q.f2.size ≤ 60) W (h : Below w.heap.size w W) => rholds_c x user name mem lev f.small f.name q hq W (hx.below h))
  have HSm := Lib.hid hsm
  clear hfew hT hx hG hsm
  have hu := Tryz.underlying32
  have huq := Tryz.underlying23
  go_enter Tryz.func3, Tryz.ntmps3
  go_wp2_with (first | ((with_reducible refine gate_dst (N := 2) rfl ?_); refine box_event ?hg (N := 2) ?hd (cs := #[.string q.f0, .string q.f1, .string q.f2, .int .i64 q.f3]) (t := 23) ?hr ?_; (case hd => rfl); (case hg => rfl); (case hr => first | (go_simp; done) | (go_simp; rfl)); intro g2 hg2 w2 hk2 hb2; (have hn2 : w.heap.size ≤ g2 := Nat.le_of_eq hg2.symm); have HQ2 := Lib.hid hk2; have HB2 := Lib.hid hb2; clear hk2 hb2 hg2 hn2) | ((with_reducible refine gate_dst (N := 3) rfl ?_); refine box_event ?hg (N := 3) ?hd (cs := scV x user name mem lev) (t := 32) ?hr ?_; (case hd => rfl); (case hg => rfl); (case hr => first | (go_simp; done) | (go_simp; rfl)); intro g3 hg3 w3 hk3 hb3; have HQ3 := Lib.hid (blk_below HQ2.out hb3); have HK3 := Lib.hid hk3; have HB3 := Lib.hid (below_step HB2.out hb3); clear hk3 hb3 hg3) | ((with_reducible refine gate_dst (N := 5) rfl ?_); refine wpList_load_row rfl 32 (.tmp 3) rfl g3 rfl 32 (scV x user name mem lev) (0, 0) _ HK3.out hu rfl (by kernel_rfl) ?_))
  refine (HFew.out _ HB3.out).mono ?_
  rintro e w4 ⟨rfl, hb4⟩
  have HB4 := Lib.hid (below_step HB3.out hb4)
  have HK4 := Lib.hid (blk_below HK3.out hb4)
  have HQ4 := Lib.hid (blk_below HQ3.out hb4)
  clear HFew HB3 HK3 HQ3 hb4
  cases b with
  | false =>
    clear hb
    go_wp2
    go_ret
    exact ⟨rfl, HB4.out⟩
  | true =>
  have hf := hb rfl
  clear hb
  have p0 : w4.cell? ⟨g2, 0, none⟩ = some (.string q.f0) := (blk_cell HQ4.out 0).trans rfl
  have p1 : w4.cell? ⟨g2, 1, none⟩ = some (.string q.f1) := (blk_cell HQ4.out 1).trans rfl
  have p2 : w4.cell? ⟨g2, 2, none⟩ = some (.string q.f2) := (blk_cell HQ4.out 2).trans rfl
  have p3 : w4.cell? ⟨g2, 3, none⟩ = some (.int .i64 q.f3) := (blk_cell HQ4.out 3).trans rfl
  cases bs with
  | false =>
    clear hbs
    go_wp2_with (go_at_call 10; refine (HSm.out _).mono ?_; rintro e w5 ⟨rfl, hb5⟩; have HB5 := Lib.hid (below_step HB4.out hb5); have HK5 := Lib.hid (blk_below HK4.out hb5); have HQ5 := Lib.hid (blk_below HQ4.out hb5); clear hb5)
    go_ret
    exact ⟨rfl, HB5.out⟩
  | true =>
  have HPS := Lib.hid (hbs rfl)
  clear hbs
  go_wp2_with (go_at_call 10; refine (HSm.out _).mono ?_; rintro e w5 ⟨rfl, hb5⟩; have HB5 := Lib.hid (below_step HB4.out hb5); have HK5 := Lib.hid (blk_below HK4.out hb5); have HQ5 := Lib.hid (blk_below HQ4.out hb5); clear hb5)
  clear HSm HB4 HK4 HQ4 p0 p1 p2 p3
  have HH1 := Lib.hid (HHo.out hf HPS.out)
  have HH2 := Lib.hid (HHr.out hf HPS.out)
  clear HHo HHr
  generalize holdsB q.f0 q.f1 q.f2 q.f3 x name mem lev = hq at HH1 HH2
  refine wp_region_flat _ ph3D (ph3S x user name mem lev q hq) (by kernel_rfl) (by kernel_rfl) (by kernel_rfl) (by kernel_rfl) rfl ?_ ?_
  · refine ⟨?p0, ?p1, ?p2, ?p3, ?p4, ?p5, ?p6, ?p7, ?p8, ?p9, ?p10, trivial⟩
    case p0 =>
      intro _ a w2 hb hk hd hkp K hK
      have e2 : a.eval (.tmp 2) = .pointer (some ⟨g2, 0, none⟩) := (hk 2 (show ∀ i, i < 11 → gslot ph3D i ≠ 2 by decide)).trans rfl
      exact wp_load_row 23 (.tmp 2) rfl g2 e2 23 (#[.string q.f0, .string q.f1, .string q.f2, .int .i64 q.f3]) (0, 0) _ (blk_below (w := w5.drew) HQ5.out hb) huq rfl (by kernel_rfl) (hK _ _ rfl (Below.refl _ _))
    case p1 =>
      intro _ a w2 hb hk hd hkp K hK
      have e3 : a.eval (.tmp 3) = .pointer (some ⟨g3, 0, none⟩) := (hk 3 (show ∀ i, i < 11 → gslot ph3D i ≠ 3 by decide)).trans rfl
      exact wp_load_row 32 (.tmp 3) rfl g3 e3 32 (scV x user name mem lev) (0, 0) _ (blk_below (w := w5.drew) HK5.out hb) hu rfl (by kernel_rfl) (hK _ _ rfl (Below.refl _ _))
    case p2 =>
      intro _ a w2 hb hk hd hkp K hK
      have h13 : a.tmps[13]?.getD undef = .agg #[.string q.f0, .string q.f1, .string q.f2, .int .i64 q.f3] := ev_of (hd 0 (by decide) (by kernel_rfl))
      have h14 : a.tmps[14]?.getD undef = .agg (scV x user name mem lev) := ev_of (hd 1 (by decide) (by kernel_rfl))
      unfold Oper.wp
      go_simp
      refine (HH1.out _ (below_step (below_drew1 HB5.out) hb)).mono ?_
      rintro e w3 ⟨rfl, hb3⟩
      exact hK _ _ rfl hb3
    case p3 =>
      intro _ a w2 hb hk hd hkp K hK
      have e2 : a.eval (.tmp 2) = .pointer (some ⟨g2, 0, none⟩) := (hk 2 (show ∀ i, i < 11 → gslot ph3D i ≠ 2 by decide)).trans rfl
      exact wp_load_row 23 (.tmp 2) rfl g2 e2 23 (#[.string q.f0, .string q.f1, .string q.f2, .int .i64 q.f3]) (0, 0) _ (blk_below (w := w5.drew) HQ5.out hb) huq rfl (by kernel_rfl) (hK _ _ rfl (Below.refl _ _))
    case p4 =>
      intro _ a w2 hb hk hd hkp K hK
      have e3 : a.eval (.tmp 3) = .pointer (some ⟨g3, 0, none⟩) := (hk 3 (show ∀ i, i < 11 → gslot ph3D i ≠ 3 by decide)).trans rfl
      exact wp_load_row 32 (.tmp 3) rfl g3 e3 32 (scV x user name mem lev) (0, 0) _ (blk_below (w := w5.drew) HK5.out hb) hu rfl (by kernel_rfl) (hK _ _ rfl (Below.refl _ _))
    case p5 =>
      intro _ a w2 hb hk hd hkp K hK
      have h16 : a.tmps[16]?.getD undef = .agg #[.string q.f0, .string q.f1, .string q.f2, .int .i64 q.f3] := ev_of (hd 3 (by decide) (by kernel_rfl))
      have h17 : a.tmps[17]?.getD undef = .agg (scV x user name mem lev) := ev_of (hd 4 (by decide) (by kernel_rfl))
      unfold Oper.wp
      go_simp
      refine (HH2.out _ (below_step (below_drew1 HB5.out) hb)).mono ?_
      rintro e w3 ⟨rfl, hb3⟩
      exact hK _ _ rfl hb3
    case p6 =>
      intro _ a w2 hb hk hd hkp K hK
      have h15 : a.tmps[15]?.getD undef = .bool hq := ev_of (hd 2 (by decide) (by kernel_rfl))
      have h18 : a.tmps[18]?.getD undef = .bool hq := ev_of (hd 5 (by decide) (by kernel_rfl))
      have hbb : (hq == hq) = true := beq_self_eq_true hq
      unfold Oper.wp
      go_simp
      exact hK _ _ rfl (Below.refl _ _)
    case p7 =>
      intro _ a w2 hb hk hd hkp K hK
      have h19 : a.tmps[19]?.getD undef = .bool true := ev_of (hd 6 (by decide) (by kernel_rfl))
      unfold Oper.wp
      go_simp
      exact hK _ _ rfl (Below.refl _ _)
    case p8 =>
      intro _ a w2 hb hk hd hkp K hK
      unfold Oper.wp
      go_simp
      refine (HAw.out _ (below_step (below_drew1 HB5.out) hb)).mono ?_
      rintro e w3 ⟨rfl, hb3⟩
      exact hK _ _ rfl hb3
    case p9 =>
      intro _ a w2 hb hk hd hkp K hK
      have h20 : a.tmps[20]?.getD undef = .bool true := ev_of (hd 7 (by decide) (by kernel_rfl))
      have h21 : a.tmps[21]?.getD undef = .bool true := ev_of (hd 8 (by decide) (by kernel_rfl))
      unfold Oper.wp
      go_simp
      exact hK _ _ rfl (Below.refl _ _)
    case p10 =>
      intro _ a w2 hb hk hd hkp K hK
      have h22 : a.tmps[22]?.getD undef = .bool true := ev_of (hd 9 (by decide) (by kernel_rfl))
      unfold Oper.wp
      go_simp
      exact hK _ _ rfl (Below.refl _ _)
  · intro w5 hb5
    dsimp only [puts, ph3D, ph3S, Spec.value]
    simp only [Act.put, List.setIfInBounds_toArray, List.set_cons_succ, List.set_cons_zero]
    go_wp2
    go_ret
    exact ⟨rfl, below_step HB5.out hb5⟩
end Go.Proofs.YtodhmbnfliajiaaGreatDoor.Q

/- HandPushTells: a text of this claim's proof,as printed or written,without what the claim does not use. -/
namespace Go.Proofs.YtodhmbnfliajiaaGreatDoor.Q
open Go.RowKit Go.Proofs.YtodhmbnfliajiaaGreatDoorW.PrintWords Go.Proofs.YtodhmbnfliajiaaGreatDoorW.PrintLast Go.Proofs.YtodhmbnfliajiaaGreatDoorW.PrintMore
set_option linter.unusedVariables false
set_option linter.unusedSimpArgs false
set_option maxRecDepth 100000 in
set_option maxHeartbeats 8000000 in
theorem pushTells_calls (A:Option Addr) (c:Nat) (l:List RL) (x:EvV) (user name:ByteArray) (mem lev:Int) (w:World) (hT:Tabs w) (hN:Near x) (hr:Kd.C k47 w A l.length l) (hc:l.length≤c) (hx:x.OkR w) :
 Calls Tryz.prog 4 #[.slice A l.length c,.agg (scV x user name mem lev)] w fun e w'=>e=.returned (.bool true)∧Below w.heap.size w w':=by
 have hG:Giv A c l x w:=⟨hT,hr,hc,hx⟩
 obtain ⟨b,hb,hfew⟩:=few_c x user name mem lev l hN
 have HFew:=Lib.hid (fun W (h:Below w.heap.size w W)=>hfew A c W (hG.below h))
 have HAw:=Lib.hid (fun W (h:Below w.heap.size w W)=>awake_c W (hT.below h))
 have HFd:=Lib.hid (fun (f:FewIs l x name) W (h:Below w.heap.size w W)=>find_c x user name mem lev f.small f.name l f.rulesSmall A c W (hG.below h))
 have HRf:=Lib.hid (fun (f:FewIs l x name) W (h:Below w.heap.size w W)=>rfind_c x user name mem lev f A c W (hG.below h))
 have HTl:=Lib.hid (fun (f:FewIs l x name) W (h:Below w.heap.size w W)=>tell_c x user name mem lev f.small f.name l f.rulesSmall A c W (hG.below h))
 have HRt:=Lib.hid (fun (f:FewIs l x name) W (h:Below w.heap.size w W)=>rtell_c x user name mem lev f A c W (hG.below h))
 have hcl:l.length≤c:=hc
 clear hfew hT hr hc hx hG
 have hu:=Tryz.underlying32
 go_enter Tryz.func4,Tryz.ntmps4
 go_wp2_with (first|((with_reducible refine gate_dst (N:=3) rfl ?_);refine box_event ?hg (N:=3) ?hd (cs:=scV x user name mem lev) (t:=32) ?hr ?_;(case hd=>rfl);(case hg=>rfl);(case hr=>first|(go_simp;done)|(go_simp;rfl));intro g3 hg3 w3 hk3 hb3;have HK3:=Lib.hid hk3;have HB3:=Lib.hid hb3;clear hk3 hb3 hg3)|((with_reducible refine gate_dst (N:=16) rfl ?_);refine wpList_load_row rfl 32 (.tmp 3) rfl g3 rfl 32 (scV x user name mem lev) (0,0) _ HK3.out hu rfl (by kernel_rfl) ?_))
 refine (HFew.out _ HB3.out).mono ?_
 rintro e w4 ⟨rfl,hb4⟩
 have HB4:=Lib.hid (below_step HB3.out hb4)
 have HK4:=Lib.hid (blk_below HK3.out hb4)
 clear HFew HB3 HK3 hb4
 cases b with
 | false=>
  clear hb
  go_wp2
  go_ret
  exact ⟨rfl,HB4.out⟩
 | true=>
 have hf:=hb rfl
 clear hb
 go_wp2_with (((with_reducible refine gate_dst (N:=21) rfl ?_);refine wpList_load_row rfl 32 (.tmp 3) rfl g3 rfl 32 (scV x user name mem lev) (0,0) _ HK4.out hu rfl (by kernel_rfl) ?_))
 refine (HFd.out hf _ HB4.out).mono ?_
 rintro e w5 ⟨rfl,hb5⟩
 have HB5:=Lib.hid (below_step HB4.out hb5)
 have HK5:=Lib.hid (blk_below HK4.out hb5)
 clear HFd HB4 HK4 hb5
 go_wp2_with (((with_reducible refine gate_dst (N:=27) rfl ?_);refine wpList_load_row rfl 32 (.tmp 3) rfl g3 rfl 32 (scV x user name mem lev) (0,0) _ HK5.out hu rfl (by kernel_rfl) ?_))
 refine (HRf.out hf _ HB5.out).mono ?_
 rintro e w6 ⟨rfl,hb6⟩
 have HB6:=Lib.hid (below_step HB5.out hb6)
 have HK6:=Lib.hid (blk_below HK5.out hb6)
 clear HRf HB5 HK5 hb6
 go_wp2_with (((with_reducible refine gate_dst (N:=33) rfl ?_);refine wpList_load_row rfl 32 (.tmp 3) rfl g3 rfl 32 (scV x user name mem lev) (0,0) _ HK6.out hu rfl (by kernel_rfl) ?_))
 refine (HTl.out hf _ HB6.out).mono ?_
 rintro e w7 ⟨rfl,hb7⟩
 have HB7:=Lib.hid (below_step HB6.out hb7)
 have HK7:=Lib.hid (blk_below HK6.out hb7)
 clear HTl HB6 HK6 hb7
 go_wp2_with (((with_reducible refine gate_dst (N:=40) rfl ?_);refine wpList_load_row rfl 32 (.tmp 3) rfl g3 rfl 32 (scV x user name mem lev) (0,0) _ HK7.out hu rfl (by kernel_rfl) ?_))
 refine (HRt.out hf _ HB7.out).mono ?_
 rintro e w8 ⟨rfl,hb8⟩
 have HB8:=Lib.hid (below_step HB7.out hb8)
 have HK8:=Lib.hid (blk_below HK7.out hb8)
 clear HRt HB7 HK7 hb8
 generalize findB l x user name mem lev=r
 generalize tellB l x user name mem lev=t
 obtain ⟨r1,r2⟩:=r
 obtain ⟨t1,t2,t3⟩:=t
 have e1:(r2==r2)=true:=beq_self_eq_true r2
 have e2:(t1==t1)=true:=beq_self_eq_true t1
 have e3:(t2==t2)=true:=beq_self_eq_true t2
 go_wp2_with (go_at_call 13;refine (HAw.out _ HB8.out).mono ?_;rintro e w9 ⟨rfl,hb9⟩;have HB9:=Lib.hid (below_step HB8.out hb9);clear hb9)
 go_ret
 exact ⟨rfl,HB9.out⟩
end Go.Proofs.YtodhmbnfliajiaaGreatDoor.Q

