/- Merged out of: HandWrap, PureFew, HandTell. -/
import Derived.Test.YtodhmbnfliajiaaGreatDoorHandFind
import Derived.Test.YtodhmbnfliajiaaGreatDoorQx0
import Derived.Test.YtodhmbnfliajiaaGreatDoorPureLeft
import Derived.Test.YtodhmbnfliajiaaGreatDoorHandFew05
import Derived.Test.YtodhmbnfliajiaaGreatDoorQx3
import Derived.WalkKit
import Derived.WalkSpells
import Derived.Lib.Hide
import Derived.BigQuiet
import Derived.Deep.QuietTactic
import Derived.Test.YtodhmbnfliajiaaGreatDoorJ12
/- HandWrap: a text of this claim's proof, as printed or written, without what the claim does not use. -/
namespace Go.Proofs.YtodhmbnfliajiaaGreatDoor.Q
open Go.RowKit Go.Shelf Go.Proofs.YtodhmbnfliajiaaGreatDoorW.PrintWords Go.Proofs.YtodhmbnfliajiaaGreatDoorW.PrintLast
set_option linter.unusedVariables false
def evSmall (x : EvV) : Bool := decide (x.room.size ≤ 1000000000 ∧ x.type.size ≤ 1000000000 ∧ x.sender.size ≤ 1000000000 ∧ x.key.size ≤ 1000000000 ∧ x.keys.length ≤ 1000000000) && x.list.all fun v => decide (v.f2.size ≤ 1000000000)
theorem evSmall_field (x : EvV) (h : evSmall x = true) (k : ByteArray) : (fieldB x k).2.2.size ≤ 1000000000 := by
  unfold evSmall at h
  rw [Bool.and_eq_true, decide_eq_true_eq, List.all_eq_true] at h
  obtain ⟨⟨h1, h2, h3, h4, h5⟩, h6⟩ := h
  unfold fieldB
  have he : (⟨#[]⟩ : ByteArray).size = 0 := rfl
  split
  · exact h2
  split
  · exact h3
  split
  · exact h1
  split
  · split
    · exact h4
    · simp [he]
  split
  · split
    · simp [he]
    · next v hv =>
      unfold aclValue at hv
      split at hv
      · cases hv
      split at hv
      · cases hv
      split at hv
      · cases hv
      · next q1 q2 q3 =>
        injection hv with hv
        have hlt : (aclIdx x.keys (k.extract 8 k.size) 0).toNat < x.list.length := by omega
        have hm : v ∈ x.list := by
          rw [← hv]; unfold rd_T27
          rw [List.getD_eq_getElem?_getD, List.getElem?_eq_getElem hlt]
          exact List.getElem_mem hlt
        have := h6 v hm
        simpa using this
  · simp [he]
theorem evSmall_keys (x : EvV) (h : evSmall x = true) : x.keys.length ≤ 1000000000 := by
  unfold evSmall at h
  rw [Bool.and_eq_true, decide_eq_true_eq] at h
  exact h.1.2.2.2.2
def rulesSmall (l : List S47) : Bool := decide (l.length ≤ 16) && l.all fun r => decide (r.f3.length ≤ 9223372036854775806) && r.f3.all fun q => decide (q.f2.size ≤ 1000000000)
theorem rulesSmall_iff {l : List S47} (h : rulesSmall l = true) : l.length ≤ 16 ∧ ∀ r ∈ l, r.f3.length ≤ 9223372036854775806 ∧ ∀ q ∈ r.f3, q.f2.size ≤ 1000000000 := by
  unfold rulesSmall at h
  rw [Bool.and_eq_true, decide_eq_true_eq, List.all_eq_true] at h
  refine ⟨h.1, fun r hr => ?_⟩
  have := h.2 r hr
  rw [Bool.and_eq_true, decide_eq_true_eq, List.all_eq_true] at this
  exact ⟨this.1, fun q hq => by simpa using this.2 q hq⟩
end Go.Proofs.YtodhmbnfliajiaaGreatDoor.Q

/- PureFew: a text of this claim's proof, as printed or written, without what the claim does not use. -/
namespace Go.Proofs.YtodhmbnfliajiaaGreatDoor.Q
open Go.RowKit Go.Proofs.YtodhmbnfliajiaaGreatDoorW.PrintWords Go.Proofs.YtodhmbnfliajiaaGreatDoorW.PrintLast Go.Proofs.YtodhmbnfliajiaaGreatDoorW.PrintMore
def RuleFits (r : RL) : Prop := r.f3.length ≤ 6 ∧ ∀ q ∈ r.f3, q.f2.size ≤ 60
structure FewIs (l : List RL) (x : EvV) (name : ByteArray) : Prop where
  len : l.length ≤ 15
  ev : EvFits x.room x.type x.sender x.key ⟨x.kind, x.n, x.text, x.keys, x.list⟩ x.prev x.auth x.hash x.sigs
  name : name.size ≤ 60
  rules : ∀ r ∈ l, RuleFits r
theorem FewIs.small {l : List RL} {x : EvV} {name : ByteArray} (h : FewIs l x name) : evSmall x = true := by
  have f := h.ev
  have h1 := f.room; have h2 := f.type; have h3 := f.sender; have h4 := f.key
  have h5 : x.keys.length ≤ 100 := f.okay.1.1
  unfold evSmall
  rw [Bool.and_eq_true, decide_eq_true_eq, List.all_eq_true]
  refine ⟨⟨by omega, by omega, by omega, by omega, by omega⟩, fun v hv => ?_⟩
  have : v.f2.size ≤ 2000 := (f.okay.2 v hv).1.2.2.1
  exact decide_eq_true (by omega)
theorem FewIs.rulesSmall {l : List RL} {x : EvV} {name : ByteArray} (h : FewIs l x name) : rulesSmall l = true := by
  have hl := h.len
  unfold Q.rulesSmall
  rw [Bool.and_eq_true, decide_eq_true_eq, List.all_eq_true]
  refine ⟨by omega, fun r hr => ?_⟩
  have := h.rules r hr
  rw [Bool.and_eq_true, decide_eq_true_eq, List.all_eq_true]
  exact ⟨by have := this.1; omega, fun q hq => decide_eq_true (by have := this.2 q hq; omega)⟩
end Go.Proofs.YtodhmbnfliajiaaGreatDoor.Q

/- HandTell: a text of this claim's proof, as printed or written, without what the claim does not use. -/
namespace Go.Proofs.YtodhmbnfliajiaaGreatDoor.Q
open Go.RowKit Go.Proofs.YtodhmbnfliajiaaGreatDoorW.PrintWords Go.Proofs.YtodhmbnfliajiaaGreatDoorW.PrintLast Go.Proofs.YtodhmbnfliajiaaGreatDoorW.PrintMore
set_option linter.unusedVariables false
set_option linter.unusedSimpArgs false
def scV (x : EvV) (user name : ByteArray) (mem lev : Int) : Array Value := #[.string x.room, .string x.type, .string x.sender, .bool x.isS, .string x.key, .int .i64 x.kind, .int .i64 x.n, .string x.text, .slice x.A8 x.keys.length x.c8, .slice x.A9 x.list.length x.c9, .slice x.A10 x.prev.length x.c10, .slice x.A11 x.auth.length x.c11, .int .i64 x.depth, .int .i64 x.ts, .string x.hash, .slice x.A15 x.sigs.length x.c15, .string user, .string name, .int .i64 mem, .int .i64 lev]
theorem findB_lt {l : List RL} {x : EvV} {user name : ByteArray} {mem lev : Int} (h : (findB l x user name mem lev).2 = true) : 0 ≤ (findB l x user name mem lev).1 ∧ (findB l x user name mem lev).1 < l.length := by
  have hs := best_spec (clsOf l) (okAt l x name mem lev) l.length
  unfold findB at h ⊢
  by_cases c : x.sender.toList = user.toList
  · rw [if_pos c] at h; cases h
  · rw [if_neg c] at h ⊢
    generalize bestIdx (clsOf l) (okAt l x name mem lev) l.length = o at *
    cases o with
    | none => cases h
    | some j => exact ⟨by show (0 : Int) ≤ (j : Int); omega, by show (j : Int) < _; have := hs.2.1; omega⟩
def tellB (l : List RL) (x : EvV) (user name : ByteArray) (mem lev : Int) : Bool × Bool × ByteArray :=
  if (findB l x user name mem lev).2 then ((rd_T47 l (findB l x user name mem lev).1).f4, (rd_T47 l (findB l x user name mem lev).1).f5, (rd_T47 l (findB l x user name mem lev).1).f1) else (false, false, ⟨#[]⟩)
set_option maxRecDepth 100000 in
set_option maxHeartbeats 8000000 in
theorem tell_x (A : Option Addr) (c : Nat) (l : List RL) (x : EvV) (user name : ByteArray) (mem lev : Int) (w : World) (hT : Tabs w) (hl : l.length ≤ 16) (hC : Kd.C k47 w A l.length l) (hc : l.length ≤ c)
    (hp : ∀ r ∈ l, r.f3.length ≤ 9223372036854775806 ∧ ∀ q ∈ r.f3, q.f2.size ≤ 1000000000) (hn : name.size ≤ 1000000000) (hf : ∀ k, (fieldB x k).2.2.size ≤ 1000000000) (hk : x.keys.length ≤ 1000000000) (hx : x.Ok w) :
    Calls Tryz.prog 16 #[.slice A l.length c, .agg (scV x user name mem lev)] w fun e w' => e = .returned (.tuple #[.bool (tellB l x user name mem lev).1, .bool (tellB l x user name mem lev).2.1, .string (tellB l x user name mem lev).2.2]) ∧ Below w.heap.size w w' := by
  have HFi := Lib.hid (fun W (h3 : Below w.heap.size w W) => (show Calls Tryz.prog 14 #[.slice A l.length c, .agg (scV x user name mem lev)] W _ from find_calls A c l x user name mem lev W (hT.below h3) hl (Kd.C_below hC h3) hc hp hn hf hk (hx.below h3)))
  have HC := Lib.hid hC
  have hlt := fun (h : (findB l x user name mem lev).2 = true) => findB_lt h
  have hte := tellB.eq_1 l x user name mem lev
  clear hT hC hp hf hx hn hk
  have hu := Tryz.underlying32
  generalize findB l x user name mem lev = r at *
  obtain ⟨at_, ok⟩ := r
  go_enter Tryz.func16, Tryz.ntmps16
  go_wp2_with (first | ((with_reducible refine gate_dst (N := 3) rfl ?_); refine box_event ?hg (N := 3) ?hd (cs := scV x user name mem lev) (t := 32) ?hr ?_; (case hd => rfl); (case hg => rfl); (case hr => first | (go_simp; done) | (go_simp; rfl)); intro g3 hg3 w3 hk3 hb3; have HK3 := Lib.hid hk3; have HB3 := Lib.hid hb3; clear hk3 hb3 hg3) | ((with_reducible refine gate_dst (N := 11) rfl ?_); refine wpList_load_row rfl 32 (.tmp 3) rfl g3 rfl 32 (scV x user name mem lev) (0, 0) _ HK3.out hu rfl (by kernel_rfl) ?_))
  refine (HFi.out _ HB3.out).mono ?_
  rintro e w4 ⟨rfl, hb4⟩
  have HB4 := Lib.hid (below_step HB3.out hb4)
  clear HFi HB3 HK3 hb4
  cases ok with
  | false =>
    have HTE := Lib.hid (hte.trans (if_neg (by decide)))
    clear hte hlt
    go_wp2
    go_ret3
    exact ⟨by rw [HTE.out]; rfl, HB4.out⟩
  | true =>
    have HTE := Lib.hid (hte.trans (if_pos rfl))
    obtain ⟨j0, j1⟩ := hlt rfl
    clear hte hlt
    obtain ⟨j, hj⟩ := Int.eq_ofNat_of_zero_le j0
    have hj' : at_ = (j : Int) := hj
    subst hj'
    have i1 : (j : Int) < (l.length : Int) := j1
    obtain ⟨ad, A3, c3, hA, q0, q1, q2, q3, q4, q5, hl3, hC3⟩ := at_T47 (Kd.C_below HC.out HB4.out) (j : Int) (by omega) i1
    rw [Int.toNat_natCast] at *
    subst hA
    clear j1 hj q0 q2 q3 hl3 hC3
    have HTE2 := Lib.hid (HTE.out.trans (show _ = ((rd_T47 l (j : Int)).f4, (rd_T47 l (j : Int)).f5, (rd_T47 l (j : Int)).f1) from rfl))
    clear HTE
    generalize rd_T47 l (j : Int) = r at *
    go_wp2
    go_quiet (fail)
    go_wp2
    go_ret3
    exact ⟨by rw [HTE2.out]; rfl, pw_below_drewN HB4.out _⟩
end Go.Proofs.YtodhmbnfliajiaaGreatDoor.Q

