/- Merged out of: NoGo, OpensJ, OpensK, HandNew, RX1, RA14, RNone14. -/
import Derived.KernelRfl
import Derived.SevenTiedAt
import Derived.Test.YtifcganfcjildaaGreatDoorProg
import Derived.Test.YtifcganfcjildaaGreatDoorJ1
import Derived.Test.YtifcganfcjildaaGreatDoorKx0
import Derived.Test.YtifcganfcjildaaGreatDoorJ2
import Derived.Test.YtifcganfcjildaaGreatDoorJ6
import Derived.WalkKit
import Derived.WalkSpells
import Derived.Carry
import Derived.Lib.Hide
import Derived.BigQuiet
import Derived.Deep.QuietTactic
import Derived.Test.YtifcganfcjildaaGreatDoorHandRoomId
import Derived.Test.YtifcganfcjildaaGreatDoorJ17
import Derived.Test.YtifcganfcjildaaGreatDoorE50
/- NoGo: a text of this claim's proof, as printed or written, without what the claim does not use. -/
namespace Go.Proofs.YtifcganfcjildaaGreatDoor.NoGo
theorem goes_none {P : Program} (h : P.funcs.any Func.goes = false) (f : FuncId) : P.goes f = false := by
  have h1 : ∀ g : Nat, (P.funcs[g]?).any Func.goes = false := by
    intro g
    cases hg : P.funcs[g]? with
    | none => rfl
    | some fn =>
      rw [Array.any_eq_false] at h
      obtain ⟨hlt, e⟩ := Array.getElem?_eq_some_iff.1 hg
      have := h g hlt
      rw [e] at this
      simpa using this
  unfold Program.goes
  rw [h, Bool.and_false, Bool.or_false]
  simp only [h1]
  simp
theorem goesBy_none {P : Program} {c : OpenClaim} (h : P.funcs.any Func.goes = false) (hs : c.start = .entering) : false = c.goesBy P := by
  unfold OpenClaim.goesBy Program.goesAt Program.goesFrom
  rw [hs]
  cases P.funcNamed c.func with
  | none => rfl
  | some f => simp [goes_none h]
theorem none_goes : Tryz.prog.funcs.any Func.goes = false := by kernel_rfl
end Go.Proofs.YtifcganfcjildaaGreatDoor.NoGo

/- OpensJ: a text of this claim's proof, as printed or written, without what the claim does not use. -/
namespace Go.Proofs.YtifcganfcjildaaGreatDoor.OpensJ
open Go.RowKit Go.Proofs.YtifcganfcjildaaGreatDoorW.PrintWords Go.Proofs.YtifcganfcjildaaGreatDoor.Opens Go.Proofs.YtifcganfcjildaaGreatDoor.K
theorem step (fuel : Nat) (d : Kd S44) (hd : d.sz = 5) (h : ∀ m, m ≤ fuel → At Tryz.prog 44 d (fun _ => True) m) : At Tryz.prog 44 (F44 d) (fun _ => True) (fuel + 1) := by
  have hs1 : At Tryz.prog 22 (Kd.slice 9 Kd.string) (fun _ => True) fuel := by
    cases fuel with
    | zero => exact zero
    | succ m => exact mono_wf (slice Tryz.underlying22 (by kernel_rfl) (string Tryz.underlying9)) (fun _ _ => trivial)
  have hs2 : At Tryz.prog 42 (Kd.slice 44 d) (fun _ => True) fuel := by
    cases fuel with
    | zero => exact zero
    | succ m => exact mono_wf (slice Tryz.underlying42 (by rw [hd]; kernel_rfl) (h m (by omega))) (fun _ _ => trivial)
  exact mono_wf (struct Tryz.underlying44 (by kernel_rfl) (fields_cons (int Tryz.underlying3) (by kernel_rfl) (fields_cons (int Tryz.underlying2) (by kernel_rfl) (fields_cons (string Tryz.underlying9) (by kernel_rfl) (fields_cons hs1 (by kernel_rfl) (fields_one hs2 (by kernel_rfl)))))) (fun x : S44 => (x.f0, x.f1, x.f2, x.f3, x.f4)) (fun y => ⟨y.1, y.2.1, y.2.2.1, y.2.2.2.1, y.2.2.2.2⟩) (fun _ => rfl)) (fun _ _ => trivial)
theorem upto : ∀ (fuel k : Nat), fuel ≤ k → At Tryz.prog 44 (Kd.upto F44 5 [9, 44] k) (fun _ => True) fuel
  | 0, _, _ => zero
  | fuel + 1, k, h => by
    obtain ⟨k, rfl⟩ : ∃ j, k = j + 1 := ⟨k - 1, by omega⟩
    exact step fuel _ (sz44 k) (fun m hm => upto m k (by omega))
theorem opens (fuel : Nat) : At Tryz.prog 44 k44 (fun _ => True) fuel := fix_ (fun fuel => upto fuel fuel (Nat.le_refl _)) fuel
end Go.Proofs.YtifcganfcjildaaGreatDoor.OpensJ

/- OpensK: a text of this claim's proof, as printed or written, without what the claim does not use. -/
namespace Go.Proofs.YtifcganfcjildaaGreatDoor.OpensK
open Go.RowKit Go.Proofs.YtifcganfcjildaaGreatDoorW.PrintWords Go.Proofs.YtifcganfcjildaaGreatDoor.OpensZ Go.Proofs.YtifcganfcjildaaGreatDoor.K
theorem strs (fuel : Nat) : AtZ Tryz.prog 22 (Kd.slice 9 Kd.string) (fun _ => True) fuel := by
  cases fuel with
  | zero => exact zero
  | succ m => exact mono_wf (slice Tryz.underlying22 (by kernel_rfl) (string Tryz.underlying9)) (fun _ _ => trivial)
theorem sig (fuel : Nat) : AtZ Tryz.prog 131 k131 (fun _ => True) fuel := by
  cases fuel with
  | zero => exact zero
  | succ m => exact mono_wf (struct Tryz.underlying131 (by kernel_rfl) (fields_cons (string Tryz.underlying9) (by kernel_rfl) (fields_one (string Tryz.underlying9) (by kernel_rfl))) (fun x : S131 => (x.f0, x.f1)) (fun y => ⟨y.1, y.2⟩) (fun _ => rfl)) (fun _ _ => trivial)
theorem sigs (fuel : Nat) : AtZ Tryz.prog 45 (Kd.slice 131 k131) (fun _ => True) fuel := by
  cases fuel with
  | zero => exact zero
  | succ m => exact mono_wf (slice Tryz.underlying45 (by kernel_rfl) (sig m)) (fun _ _ => trivial)
structure EvNear (x : S47) : Prop where
  room : x.f0.size ≤ 140737488351232
  type : x.f1.size ≤ 140737488351232
  sender : x.f2.size ≤ 140737488351232
  key : x.f4.size ≤ 140737488351232
  hash : x.f10.size ≤ 140737488351232
theorem event (fuel : Nat) : AtZ Tryz.prog 47 k47 EvNear fuel := by
  cases fuel with
  | zero => exact zero
  | succ m =>
    exact mono_wf (struct Tryz.underlying47 (by kernel_rfl) (fields_cons (string Tryz.underlying9) (by kernel_rfl) (fields_cons (string Tryz.underlying9) (by kernel_rfl) (fields_cons (string Tryz.underlying9) (by kernel_rfl) (fields_cons (bool Tryz.underlying4) (by kernel_rfl) (fields_cons (string Tryz.underlying9) (by kernel_rfl) (fields_cons (of_At (OpensJ.opens m)) (by kernel_rfl) (fields_cons (strs m) (by kernel_rfl) (fields_cons (strs m) (by kernel_rfl) (fields_cons (int Tryz.underlying2) (by kernel_rfl) (fields_cons (int Tryz.underlying2) (by kernel_rfl) (fields_cons (string Tryz.underlying9) (by kernel_rfl) (fields_one (sigs m) (by kernel_rfl))))))))))))) (fun x : S47 => (x.f0, x.f1, x.f2, x.f3, x.f4, x.f5, x.f6, x.f7, x.f8, x.f9, x.f10, x.f11)) (fun y => ⟨y.1, y.2.1, y.2.2.1, y.2.2.2.1, y.2.2.2.2.1, y.2.2.2.2.2.1, y.2.2.2.2.2.2.1, y.2.2.2.2.2.2.2.1, y.2.2.2.2.2.2.2.2.1, y.2.2.2.2.2.2.2.2.2.1, y.2.2.2.2.2.2.2.2.2.2.1, y.2.2.2.2.2.2.2.2.2.2.2⟩) (fun _ => rfl))
      (fun x h => ⟨h.1, h.2.1, h.2.2.1, h.2.2.2.2.1, h.2.2.2.2.2.2.2.2.2.2.1⟩)
theorem known (fuel : Nat) : AtZ Tryz.prog 59 k59 (fun s => EvNear s.f1) fuel := by
  cases fuel with
  | zero => exact zero
  | succ m =>
    exact mono_wf (struct Tryz.underlying59 (by kernel_rfl) (fields_cons (string Tryz.underlying9) (by kernel_rfl) (fields_one (event m) (by kernel_rfl))) (fun x : S59 => (x.f0, x.f1)) (fun y => ⟨y.1, y.2⟩) (fun _ => rfl))
      (fun x h => h.2)
def evS (s : S47) (A8 : Option Addr) (c8 : Nat) (A9 : Option Addr) (c9 : Nat) (A10 : Option Addr) (c10 : Nat) (A11 : Option Addr) (c11 : Nat) (A15 : Option Addr) (c15 : Nat) : EvV := ⟨s.f0, s.f1, s.f2, s.f3, s.f4, s.f5.f0, s.f5.f1, s.f5.f2, A8, c8, s.f5.f3, A9, c9, s.f5.f4, A10, c10, s.f6, A11, c11, s.f7, s.f8, s.f9, s.f10, A15, c15, s.f11⟩
theorem EvNear.near {s : S47} (h : EvNear s) {A8 : Option Addr} {c8 : Nat} {A9 : Option Addr} {c9 : Nat} {A10 : Option Addr} {c10 : Nat} {A11 : Option Addr} {c11 : Nat} {A15 : Option Addr} {c15 : Nat} : Near (evS s A8 c8 A9 c9 A10 c10 A11 c11 A15 c15) := ⟨h.room, h.type, h.sender, h.key, h.hash⟩
end Go.Proofs.YtifcganfcjildaaGreatDoor.OpensK

/- HandNew: a text of this claim's proof, as printed or written, without what the claim does not use. -/
namespace Go.Proofs.YtifcganfcjildaaGreatDoor.K
open Go.RowKit Go.Proofs.YtifcganfcjildaaGreatDoorW.PrintWords Go.Proofs.YtifcganfcjildaaGreatDoorW.PrintLast Go.Proofs.YtifcganfcjildaaGreatDoorW.PrintMore
set_option linter.unusedVariables false
set_option linter.unusedSimpArgs false
def rmC (h : Nat) (name : ByteArray) : Array Value := #[.pointer (some ⟨h, 0, none⟩), .string name, .slice none 0 0, .slice none 0 0, .slice none 0 0, .slice none 0 0, .slice none 0 0, .slice none 0 0, .slice none 0 0, .bool false]
def RB (g h : Nat) (name : ByteArray) (W : World) : Prop := W.heap[g]? = some (.cells (rmC h name) 88 (0, 0))
set_option maxRecDepth 100000 in
set_option maxHeartbeats 2000000 in
theorem dagNew_c (w : World) : Calls Tryz.prog 88 #[] w fun e w' => ∃ h, e = .returned (.pointer (some ⟨h, 0, none⟩)) ∧ Below w.heap.size w w' := by
  have hmm := @run_makeMap Tryz.prog
  go_enter Tryz.func88, Tryz.ntmps88
  go_wp2
  go_ret
  exact ⟨_, rfl, by repeat (first | exact Below.refl _ _ | apply below_alloc)⟩
set_option maxRecDepth 100000 in
set_option maxHeartbeats 4000000 in
theorem new_c (name : ByteArray) (hs : name.size < 4294967281) (w : World) (hT : Tabs w) :
    Calls Tryz.prog 21 #[.string name] w fun e w' => Below w.heap.size w w' ∧ (e = .returned (.tuple #[.pointer none, .int .i64 1]) ∨ ∃ g h, e = .returned (.tuple #[.pointer (some ⟨g, 0, none⟩), .int .i64 0]) ∧ RB g h name w') := by
  have HC := Lib.hid (room_calls name hs w hT)
  generalize roomB name = u at *
  obtain ⟨u1, u2, u3⟩ := u
  clear hs hT
  cases u3 with
  | false =>
    go_enter Tryz.func21, Tryz.ntmps21
    go_wp2_with (go_at_call 87; refine HC.out.mono ?_; rintro e w2 ⟨rfl, hb⟩)
    go_ret2
    exact ⟨hb, .inl rfl⟩
  | true =>
    go_enter Tryz.func21, Tryz.ntmps21
    go_wp2_with (first | (go_at_call 87; refine HC.out.mono ?_; rintro e w2 ⟨rfl, hb⟩) | (go_at_call 88; refine (dagNew_c _).mono ?_; rintro e w3 ⟨h, rfl, hb3⟩))
    go_ret2
    exact ⟨by repeat (first | exact hb.trans (hb3.mono hb.size) | apply below_alloc), .inr ⟨w3.heap.size, h, rfl, blk_new w3 _⟩⟩
set_option maxRecDepth 100000 in
set_option maxHeartbeats 2000000 in
theorem made_c (g h : Nat) (name : ByteArray) (w : World) (hk : RB g h name w) :
    Calls Tryz.prog 116 #[.pointer (some ⟨g, 0, none⟩)] w fun e w' => e = .returned (.bool true) ∧ Below w.heap.size w w' := by
  have q0 : w.cell? ⟨g, 0, none⟩ = some (.pointer (some ⟨h, 0, none⟩)) := (blk_cell hk 0).trans rfl
  clear hk
  go_enter Tryz.func116, Tryz.ntmps116
  go_wp2
  go_ret
  exact ⟨rfl, Below.refl _ _⟩
set_option maxRecDepth 100000 in
set_option maxHeartbeats 2000000 in
theorem id_c (g h : Nat) (name : ByteArray) (w : World) (hk : RB g h name w) :
    Calls Tryz.prog 38 #[.pointer (some ⟨g, 0, none⟩)] w fun e w' => e = .returned (.string name) ∧ Below w.heap.size w w' := by
  have HM := Lib.hid (made_c g h name w hk)
  have HK := Lib.hid (fun W (hb : Below w.heap.size w W) => ((blk_cell (blk_below hk hb) 1).trans rfl : W.cell? ⟨g, 1, none⟩ = some (.string name)))
  clear hk
  go_enter Tryz.func38, Tryz.ntmps38
  go_wp2_with (go_at_call 116; refine HM.out.mono ?_; rintro e w2 ⟨rfl, hb⟩; have q1 := HK.out _ hb)
  go_ret
  exact ⟨rfl, hb⟩
end Go.Proofs.YtifcganfcjildaaGreatDoor.K

/- The machine over names, with what is known of events' shapes. -/
namespace Go.Proofs.YtifcganfcjildaaGreatDoor.E
open Go Go.RowKit
set_option linter.unusedVariables false
set_option linter.unusedSimpArgs false
set_option linter.unnecessarySimpa false
noncomputable section
def tblSh : List Ent := [shC, shJ, shM]
def sumX (g : FuncId) : Option (List AV → Fr AV) := match Nat.beq g 85 with
  | true => some (memoA tblSh)
  | false => none
def X1 : Ctx := ⟨Tryz.prog, extX, sumX⟩
theorem tblSh_ok : ∀ e ∈ tblSh, PureOk Tryz.prog 85 e := by
  intro e he
  unfold tblSh at he
  simp only [List.mem_cons, List.not_mem_nil, or_false] at he
  rcases he with rfl | rfl | rfl
  · exact ok_shC
  · exact ok_shJ
  · exact ok_shM
theorem X1_ok (n0 : Nat) (w0 : World) : XOk X1 n0 w0 := ⟨num_X, fun g e h args v s s' hr lm φ w L hR hm hl => ext_X h args v s s' hr n0 w0 lm φ w L hR hm hl, fun g e h args v s s' hr lm φ w L hR hm hl c cs => by
  have h' : sumX g = some e := h
  unfold sumX at h'
  split at h'
  · next hb =>
    have := Nat.eq_of_beq_eq_true hb
    subst this
    obtain rfl := Option.some.inj h'
    exact memoA_sound tblSh_ok hr hR hl c cs
  · cases h'⟩
end
end Go.Proofs.YtifcganfcjildaaGreatDoor.E

/- agoralaw14.awake answers true. -/
namespace Go.Proofs.YtifcganfcjildaaGreatDoor.E
open Go Go.RowKit
set_option linter.unusedVariables false
set_option linter.unusedSimpArgs false
set_option linter.unnecessarySimpa false
theorem run_awake14 : truthB ((callN X1 (runA X1 1000000) 18 []).run ⟨.nil, 0, 0, 0⟩) = true := by kernel_rfl
theorem awake14 (w : World) : Calls Tryz.prog 18 #[] w fun e w' => e = .returned (.bool true) ∧ Below w.heap.size w w' := calls_true X1_ok mixed_X run_awake14 w
end Go.Proofs.YtifcganfcjildaaGreatDoor.E

/- What agoralaw14.RoomNone does once it has asked for a room of that name: it answers true, whatever the event is. -/
namespace Go.Proofs.YtifcganfcjildaaGreatDoor.E
open Go Go.RowKit
set_option linter.unusedVariables false
set_option linter.unusedSimpArgs false
set_option linter.unnecessarySimpa false
noncomputable section
theorem pureOk_true {P : Program} {g : FuncId} (h : ∀ w, Calls P g #[] w fun e w' => e = .returned (.bool true) ∧ Below w.heap.size w w') : PureOk P g ⟨[], [], .bool true⟩ := by
  intro φ w L hL _ _ c k
  obtain ⟨L⟩ := L
  cases hL
  obtain ⟨e, w', fr, ⟨rfl, hb⟩, hs, hf, hl⟩ := h w (c :: k)
  exact ⟨w', .bool true, hb, .bool true, hs.trans (.one (step_leave_returned hl))⟩
noncomputable def sndC : Code → Code
  | .seq _ y => y
  | c => c
noncomputable def bodyC (f : Func) : Code := f.body.getD .skip
noncomputable def rest14 : Code := sndC (sndC (sndC (sndC (bodyC Tryz.f8))))
noncomputable def tbl14 : List (Nat × List Ent) := [(18, [⟨[], [], .bool true⟩])]
noncomputable def X14 : Ctx := ⟨Tryz.prog, extX, sumT tbl14⟩
theorem tbl14_ok : ∀ p ∈ tbl14, ∀ e ∈ p.2, PureOk Tryz.prog p.1 e := by
  unfold tbl14
  simp only [List.forall_mem_cons, List.not_mem_nil, false_imp_iff, implies_true, and_true]
  exact pureOk_true awake14
theorem X14_ok (n0 : Nat) (w0 : World) : XOk X14 n0 w0 := ⟨num_X, fun g e h args v s s' hr lm φ w L hR hm hl => ext_X h args v s s' hr n0 w0 lm φ w L hR hm hl, fun g e h args v s s' hr lm φ w L hR hm hl c cs => by
  have h' : sumT tbl14 g = some e := h
  unfold sumT at h'
  split at h'
  · next t ht =>
    obtain rfl := Option.some.inj h'
    exact memoA_sound (findT_ok tbl14_ok ht) hr hR hl c cs
  · cases h'⟩
theorem run_none14 : restB X14 1000000 8 145 [(3, .ptr 0 0)] [List.replicate 17 .opq] [rest14] = true := by kernel_rfl
end
end Go.Proofs.YtifcganfcjildaaGreatDoor.E

