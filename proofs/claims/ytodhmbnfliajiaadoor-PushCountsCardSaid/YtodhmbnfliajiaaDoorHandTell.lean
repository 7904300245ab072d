/- HandTell: a text of this claim's proof, as printed or written, without what the claim does not use. -/
import Derived.WalkKit
import Derived.WalkSpells
import Derived.Lib.Hide
import Derived.BigQuiet
import Derived.Deep.QuietTactic
import Derived.Test.YtodhmbnfliajiaaDoorHandFind
import Derived.Test.YtodhmbnfliajiaaDoorQx0
import Derived.Test.YtodhmbnfliajiaaDoorJ5
namespace Go.Proofs.YtodhmbnfliajiaaDoor.Q
open Go.RowKit Go.Proofs.YtodhmbnfliajiaaDoorW.PrintWords Go.Proofs.YtodhmbnfliajiaaDoorW.PrintLast Go.Proofs.YtodhmbnfliajiaaDoorW.PrintMore
set_option linter.unusedVariables false
set_option linter.unusedSimpArgs false
def scV (x : EvV) (user name : ByteArray) (mem lev : Int) : Array Value := #[.string x.room, .string x.type, .string x.sender, .bool x.isS, .string x.key, .int .i64 x.kind, .int .i64 x.n, .string x.text, .slice x.A8 x.keys.length x.c8, .slice x.A9 x.list.length x.c9, .slice x.A10 x.prev.length x.c10, .slice x.A11 x.auth.length x.c11, .int .i64 x.depth, .int .i64 x.ts, .string x.hash, .slice x.A15 x.sigs.length x.c15, .string user, .string name, .int .i64 mem, .int .i64 lev]
theorem findB_lt {l : List RL} {x : EvV} {user name : ByteArray} {mem lev : Int} (h : (findB l x user name mem lev).2 = true) : 0 ≤ (findB l x user name mem lev).1 ∧ (findB l x user name mem lev).1 < l.length := by
  have hs := best_spec (clsOf l) (okAt l x name mem lev) l.length
  unfold findB at h ⊢
  by_cases c : x.sender.toList = user.toList
  · rw [if_pos c] at h; cases h
  · rw [if_neg c] at h ⊢
    generalize bestIdx (clsOf l) (okAt l x name mem lev) l.length = o at *
    cases o with
    | none => cases h
    | some j => exact ⟨by show (0 : Int) ≤ (j : Int); omega, by show (j : Int) < _; have := hs.2.1; omega⟩
def tellB (l : List RL) (x : EvV) (user name : ByteArray) (mem lev : Int) : Bool × Bool × ByteArray :=
  if (findB l x user name mem lev).2 then ((rd_T51 l (findB l x user name mem lev).1).f4, (rd_T51 l (findB l x user name mem lev).1).f5, (rd_T51 l (findB l x user name mem lev).1).f1) else (false, false, ⟨#[]⟩)
set_option maxRecDepth 100000 in
set_option maxHeartbeats 8000000 in
theorem tell_x (A : Option Addr) (c : Nat) (l : List RL) (x : EvV) (user name : ByteArray) (mem lev : Int) (w : World) (hT : Tabs w) (hl : l.length ≤ 16) (hC : Kd.C k51 w A l.length l) (hc : l.length ≤ c)
    (hp : ∀ r ∈ l, r.f3.length ≤ 9223372036854775806 ∧ ∀ q ∈ r.f3, q.f2.size ≤ 1000000000) (hn : name.size ≤ 1000000000) (hf : ∀ k, (fieldB x k).2.2.size ≤ 1000000000) (hk : x.keys.length ≤ 1000000000) (hx : x.Ok w) :
    Calls Tryd.prog 9 #[.slice A l.length c, .agg (scV x user name mem lev)] w fun e w' => e = .returned (.tuple #[.bool (tellB l x user name mem lev).1, .bool (tellB l x user name mem lev).2.1, .string (tellB l x user name mem lev).2.2]) ∧ Below w.heap.size w w' := by
  have HFi := Lib.hid (fun W (h3 : Below w.heap.size w W) => (show Calls Tryd.prog 20 #[.slice A l.length c, .agg (scV x user name mem lev)] W _ from find_calls A c l x user name mem lev W (hT.below h3) hl (Kd.C_below hC h3) hc hp hn hf hk (hx.below h3)))
  have HC := Lib.hid hC
  have hlt := fun (h : (findB l x user name mem lev).2 = true) => findB_lt h
  have hte := tellB.eq_1 l x user name mem lev
  clear hT hC hp hf hx hn hk
  have hu := Tryd.underlying31
  generalize findB l x user name mem lev = r at *
  obtain ⟨at_, ok⟩ := r
  go_enter Tryd.func9, Tryd.ntmps9
  go_wp2_with (first | ((with_reducible refine gate_dst (N := 3) rfl ?_); refine box_event ?hg (N := 3) ?hd (cs := scV x user name mem lev) (t := 31) ?hr ?_; (case hd => rfl); (case hg => rfl); (case hr => first | (go_simp; done) | (go_simp; rfl)); intro g3 hg3 w3 hk3 hb3; have HK3 := Lib.hid hk3; have HB3 := Lib.hid hb3; clear hk3 hb3 hg3) | ((with_reducible refine gate_dst (N := 11) rfl ?_); refine wpList_load_row rfl 31 (.tmp 3) rfl g3 rfl 31 (scV x user name mem lev) (0, 0) _ HK3.out hu rfl (by kernel_rfl) ?_))
  refine (HFi.out _ HB3.out).mono ?_
  rintro e w4 ⟨rfl, hb4⟩
  have HB4 := Lib.hid (below_step HB3.out hb4)
  clear HFi HB3 HK3 hb4
  cases ok with
  | false =>
    have HTE := Lib.hid (hte.trans (if_neg (by decide)))
    clear hte hlt
    go_wp2
    go_ret3
    exact ⟨by rw [HTE.out]; rfl, HB4.out⟩
  | true =>
    have HTE := Lib.hid (hte.trans (if_pos rfl))
    obtain ⟨j0, j1⟩ := hlt rfl
    clear hte hlt
    obtain ⟨j, hj⟩ := Int.eq_ofNat_of_zero_le j0
    have hj' : at_ = (j : Int) := hj
    subst hj'
    have i1 : (j : Int) < (l.length : Int) := j1
    obtain ⟨ad, A3, c3, hA, q0, q1, q2, q3, q4, q5, hl3, hC3⟩ := at_T51 (Kd.C_below HC.out HB4.out) (j : Int) (by omega) i1
    rw [Int.toNat_natCast] at *
    subst hA
    clear j1 hj q0 q2 q3 hl3 hC3
    have HTE2 := Lib.hid (HTE.out.trans (show _ = ((rd_T51 l (j : Int)).f4, (rd_T51 l (j : Int)).f5, (rd_T51 l (j : Int)).f1) from rfl))
    clear HTE
    generalize rd_T51 l (j : Int) = r at *
    go_wp2
    go_quiet (fail)
    go_wp2
    go_ret3
    exact ⟨by rw [HTE2.out]; rfl, pw_below_drewN HB4.out _⟩
end Go.Proofs.YtodhmbnfliajiaaDoor.Q
