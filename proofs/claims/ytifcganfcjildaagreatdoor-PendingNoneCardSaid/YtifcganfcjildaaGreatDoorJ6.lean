/- Merged out of: NoGo, OpensJ, OpensK, RNm, RX2, RA19, RNone19. -/
import Derived.KernelRfl
import Derived.SevenTiedAt
import Derived.Test.YtifcganfcjildaaGreatDoorProg
import Derived.Test.YtifcganfcjildaaGreatDoorJ1
import Derived.Test.YtifcganfcjildaaGreatDoorKx0
import Derived.Test.YtifcganfcjildaaGreatDoorJ2
import Derived.Test.YtifcganfcjildaaGreatDoorJ15
import Derived.Test.YtifcganfcjildaaGreatDoorE50
/- NoGo: a text of this claim's proof, as printed or written, without what the claim does not use. -/
namespace Go.Proofs.YtifcganfcjildaaGreatDoor.NoGo
theorem goes_none {P : Program} (h : P.funcs.any Func.goes = false) (f : FuncId) : P.goes f = false := by
  have h1 : ∀ g : Nat, (P.funcs[g]?).any Func.goes = false := by
    intro g
    cases hg : P.funcs[g]? with
    | none => rfl
    | some fn =>
      rw [Array.any_eq_false] at h
      obtain ⟨hlt, e⟩ := Array.getElem?_eq_some_iff.1 hg
      have := h g hlt
      rw [e] at this
      simpa using this
  unfold Program.goes
  rw [h, Bool.and_false, Bool.or_false]
  simp only [h1]
  simp
theorem goesBy_none {P : Program} {c : OpenClaim} (h : P.funcs.any Func.goes = false) (hs : c.start = .entering) : false = c.goesBy P := by
  unfold OpenClaim.goesBy Program.goesAt Program.goesFrom
  rw [hs]
  cases P.funcNamed c.func with
  | none => rfl
  | some f => simp [goes_none h]
theorem none_goes : Tryz.prog.funcs.any Func.goes = false := by kernel_rfl
end Go.Proofs.YtifcganfcjildaaGreatDoor.NoGo

/- OpensJ: a text of this claim's proof, as printed or written, without what the claim does not use. -/
namespace Go.Proofs.YtifcganfcjildaaGreatDoor.OpensJ
open Go.RowKit Go.Proofs.YtifcganfcjildaaGreatDoorW.PrintWords Go.Proofs.YtifcganfcjildaaGreatDoor.Opens Go.Proofs.YtifcganfcjildaaGreatDoor.K
theorem step (fuel : Nat) (d : Kd S44) (hd : d.sz = 5) (h : ∀ m, m ≤ fuel → At Tryz.prog 44 d (fun _ => True) m) : At Tryz.prog 44 (F44 d) (fun _ => True) (fuel + 1) := by
  have hs1 : At Tryz.prog 22 (Kd.slice 9 Kd.string) (fun _ => True) fuel := by
    cases fuel with
    | zero => exact zero
    | succ m => exact mono_wf (slice Tryz.underlying22 (by kernel_rfl) (string Tryz.underlying9)) (fun _ _ => trivial)
  have hs2 : At Tryz.prog 42 (Kd.slice 44 d) (fun _ => True) fuel := by
    cases fuel with
    | zero => exact zero
    | succ m => exact mono_wf (slice Tryz.underlying42 (by rw [hd]; kernel_rfl) (h m (by omega))) (fun _ _ => trivial)
  exact mono_wf (struct Tryz.underlying44 (by kernel_rfl) (fields_cons (int Tryz.underlying3) (by kernel_rfl) (fields_cons (int Tryz.underlying2) (by kernel_rfl) (fields_cons (string Tryz.underlying9) (by kernel_rfl) (fields_cons hs1 (by kernel_rfl) (fields_one hs2 (by kernel_rfl)))))) (fun x : S44 => (x.f0, x.f1, x.f2, x.f3, x.f4)) (fun y => ⟨y.1, y.2.1, y.2.2.1, y.2.2.2.1, y.2.2.2.2⟩) (fun _ => rfl)) (fun _ _ => trivial)
theorem upto : ∀ (fuel k : Nat), fuel ≤ k → At Tryz.prog 44 (Kd.upto F44 5 [9, 44] k) (fun _ => True) fuel
  | 0, _, _ => zero
  | fuel + 1, k, h => by
    obtain ⟨k, rfl⟩ : ∃ j, k = j + 1 := ⟨k - 1, by omega⟩
    exact step fuel _ (sz44 k) (fun m hm => upto m k (by omega))
theorem opens (fuel : Nat) : At Tryz.prog 44 k44 (fun _ => True) fuel := fix_ (fun fuel => upto fuel fuel (Nat.le_refl _)) fuel
end Go.Proofs.YtifcganfcjildaaGreatDoor.OpensJ

/- OpensK: a text of this claim's proof, as printed or written, without what the claim does not use. -/
namespace Go.Proofs.YtifcganfcjildaaGreatDoor.OpensK
open Go.RowKit Go.Proofs.YtifcganfcjildaaGreatDoorW.PrintWords Go.Proofs.YtifcganfcjildaaGreatDoor.OpensZ Go.Proofs.YtifcganfcjildaaGreatDoor.K
theorem strs (fuel : Nat) : AtZ Tryz.prog 22 (Kd.slice 9 Kd.string) (fun _ => True) fuel := by
  cases fuel with
  | zero => exact zero
  | succ m => exact mono_wf (slice Tryz.underlying22 (by kernel_rfl) (string Tryz.underlying9)) (fun _ _ => trivial)
theorem sig (fuel : Nat) : AtZ Tryz.prog 131 k131 (fun _ => True) fuel := by
  cases fuel with
  | zero => exact zero
  | succ m => exact mono_wf (struct Tryz.underlying131 (by kernel_rfl) (fields_cons (string Tryz.underlying9) (by kernel_rfl) (fields_one (string Tryz.underlying9) (by kernel_rfl))) (fun x : S131 => (x.f0, x.f1)) (fun y => ⟨y.1, y.2⟩) (fun _ => rfl)) (fun _ _ => trivial)
theorem sigs (fuel : Nat) : AtZ Tryz.prog 45 (Kd.slice 131 k131) (fun _ => True) fuel := by
  cases fuel with
  | zero => exact zero
  | succ m => exact mono_wf (slice Tryz.underlying45 (by kernel_rfl) (sig m)) (fun _ _ => trivial)
structure EvNear (x : S47) : Prop where
  room : x.f0.size ≤ 140737488351232
  type : x.f1.size ≤ 140737488351232
  sender : x.f2.size ≤ 140737488351232
  key : x.f4.size ≤ 140737488351232
  hash : x.f10.size ≤ 140737488351232
theorem event (fuel : Nat) : AtZ Tryz.prog 47 k47 EvNear fuel := by
  cases fuel with
  | zero => exact zero
  | succ m =>
    exact mono_wf (struct Tryz.underlying47 (by kernel_rfl) (fields_cons (string Tryz.underlying9) (by kernel_rfl) (fields_cons (string Tryz.underlying9) (by kernel_rfl) (fields_cons (string Tryz.underlying9) (by kernel_rfl) (fields_cons (bool Tryz.underlying4) (by kernel_rfl) (fields_cons (string Tryz.underlying9) (by kernel_rfl) (fields_cons (of_At (OpensJ.opens m)) (by kernel_rfl) (fields_cons (strs m) (by kernel_rfl) (fields_cons (strs m) (by kernel_rfl) (fields_cons (int Tryz.underlying2) (by kernel_rfl) (fields_cons (int Tryz.underlying2) (by kernel_rfl) (fields_cons (string Tryz.underlying9) (by kernel_rfl) (fields_one (sigs m) (by kernel_rfl))))))))))))) (fun x : S47 => (x.f0, x.f1, x.f2, x.f3, x.f4, x.f5, x.f6, x.f7, x.f8, x.f9, x.f10, x.f11)) (fun y => ⟨y.1, y.2.1, y.2.2.1, y.2.2.2.1, y.2.2.2.2.1, y.2.2.2.2.2.1, y.2.2.2.2.2.2.1, y.2.2.2.2.2.2.2.1, y.2.2.2.2.2.2.2.2.1, y.2.2.2.2.2.2.2.2.2.1, y.2.2.2.2.2.2.2.2.2.2.1, y.2.2.2.2.2.2.2.2.2.2.2⟩) (fun _ => rfl))
      (fun x h => ⟨h.1, h.2.1, h.2.2.1, h.2.2.2.2.1, h.2.2.2.2.2.2.2.2.2.2.1⟩)
theorem known (fuel : Nat) : AtZ Tryz.prog 59 k59 (fun s => EvNear s.f1) fuel := by
  cases fuel with
  | zero => exact zero
  | succ m =>
    exact mono_wf (struct Tryz.underlying59 (by kernel_rfl) (fields_cons (string Tryz.underlying9) (by kernel_rfl) (fields_one (event m) (by kernel_rfl))) (fun x : S59 => (x.f0, x.f1)) (fun y => ⟨y.1, y.2⟩) (fun _ => rfl))
      (fun x h => h.2)
theorem deed (fuel : Nat) : AtZ Tryz.prog 61 k61 (fun s => EvNear s.f2.f1) fuel := by
  cases fuel with
  | zero => exact zero
  | succ m =>
    exact mono_wf (struct Tryz.underlying61 (by kernel_rfl) (fields_cons (int Tryz.underlying3) (by kernel_rfl) (fields_cons (int Tryz.underlying3) (by kernel_rfl) (fields_one (known m) (by kernel_rfl)))) (fun x : S61 => (x.f0, x.f1, x.f2)) (fun y => ⟨y.1, y.2.1, y.2.2⟩) (fun _ => rfl))
      (fun x h => h.2.2)
def evS (s : S47) (A8 : Option Addr) (c8 : Nat) (A9 : Option Addr) (c9 : Nat) (A10 : Option Addr) (c10 : Nat) (A11 : Option Addr) (c11 : Nat) (A15 : Option Addr) (c15 : Nat) : EvV := ⟨s.f0, s.f1, s.f2, s.f3, s.f4, s.f5.f0, s.f5.f1, s.f5.f2, A8, c8, s.f5.f3, A9, c9, s.f5.f4, A10, c10, s.f6, A11, c11, s.f7, s.f8, s.f9, s.f10, A15, c15, s.f11⟩
theorem EvNear.near {s : S47} (h : EvNear s) {A8 : Option Addr} {c8 : Nat} {A9 : Option Addr} {c9 : Nat} {A10 : Option Addr} {c10 : Nat} {A11 : Option Addr} {c11 : Nat} {A15 : Option Addr} {c15 : Nat} : Near (evS s A8 c8 A9 c9 A10 c10 A11 c11 A15 c15) := ⟨h.room, h.type, h.sender, h.key, h.hash⟩
end Go.Proofs.YtifcganfcjildaaGreatDoor.OpensK

/- What is known of names, run: which are events' and users', and whose home is where. -/
namespace Go.Proofs.YtifcganfcjildaaGreatDoor.E
open Go Go.RowKit
set_option linter.unusedVariables false
set_option linter.unusedSimpArgs false
set_option linter.unnecessarySimpa false
noncomputable section
def homeN : List Nat := [115, 49]
def yesE (l : List Nat) : Ent := ⟨[.str l], [], .bool true⟩
def homeE (l : List Nat) : Ent := ⟨[.str l], [], .str homeN⟩
theorem r_ev1 : pureB X0 1000000 117 (yesE nmE) = true := by kernel_rfl
theorem r_ev2 : pureB X0 1000000 117 (yesE nmI) = true := by kernel_rfl
theorem r_rev1 : pureB X0 1000000 292 (yesE nmE) = true := by kernel_rfl
theorem r_rev2 : pureB X0 1000000 292 (yesE nmI) = true := by kernel_rfl
theorem r_rus : pureB X0 1000000 376 (yesE usA) = true := by kernel_rfl
theorem r_ho1 : pureB X0 1000000 133 (homeE roomN) = true := by kernel_rfl
theorem r_ho2 : pureB X0 1000000 133 (homeE usA) = true := by kernel_rfl
theorem r_rho1 : pureB X0 1000000 474 (homeE roomN) = true := by kernel_rfl
theorem r_rho2 : pureB X0 1000000 474 (homeE usA) = true := by kernel_rfl
/-- What is known, function by function. -/
def findT : List (Nat × List Ent) → Nat → Option (List Ent)
  | [], _ => none
  | (k, t) :: l, g => match Nat.beq g k with
    | true => some t
    | false => findT l g
def sumT (T : List (Nat × List Ent)) (g : FuncId) : Option (List AV → Fr AV) := match findT T g with
  | some t => some (memoA t)
  | none => none
theorem findT_ok {P : Program} : ∀ {T : List (Nat × List Ent)} {g : Nat} {t : List Ent}, (∀ p ∈ T, ∀ e ∈ p.2, PureOk P p.1 e) → findT T g = some t → ∀ e ∈ t, PureOk P g e
  | [], g, t, _, h => by cases h
  | (k, u) :: l, g, t, hT, h => by
    unfold findT at h
    split at h
    · next hb =>
      have := Nat.eq_of_beq_eq_true hb
      subst this
      obtain rfl := Option.some.inj h
      exact hT (g, u) (List.mem_cons_self ..)
    · exact findT_ok (fun p hp => hT p (List.mem_cons_of_mem _ hp)) h
def tblNm : List (Nat × List Ent) := [(117, [yesE nmE, yesE nmI]), (292, [yesE nmE, yesE nmI]), (376, [yesE usA]), (133, [homeE roomN, homeE usA]), (474, [homeE roomN, homeE usA])]
theorem tblNm_ok : ∀ p ∈ tblNm, ∀ e ∈ p.2, PureOk Tryz.prog p.1 e := by
  unfold tblNm
  simp only [List.forall_mem_cons, List.not_mem_nil, false_imp_iff, implies_true, and_true]
  exact ⟨⟨pure_of_run X0_ok mixed_X r_ev1, pure_of_run X0_ok mixed_X r_ev2⟩, ⟨pure_of_run X0_ok mixed_X r_rev1, pure_of_run X0_ok mixed_X r_rev2⟩, pure_of_run X0_ok mixed_X r_rus, ⟨pure_of_run X0_ok mixed_X r_ho1, pure_of_run X0_ok mixed_X r_ho2⟩, pure_of_run X0_ok mixed_X r_rho1, pure_of_run X0_ok mixed_X r_rho2⟩
end
end Go.Proofs.YtifcganfcjildaaGreatDoor.E

/- The machine over names, with what is known of two events' shapes and measures, and of names. -/
namespace Go.Proofs.YtifcganfcjildaaGreatDoor.E
open Go Go.RowKit
set_option linter.unusedVariables false
set_option linter.unusedSimpArgs false
set_option linter.unnecessarySimpa false
noncomputable section
def tbl2 : List (Nat × List Ent) := (85, tblSh) :: (291, [fitC, fitJ]) :: tblNm
def X2 : Ctx := ⟨Tryz.prog, extX, sumT tbl2⟩
theorem tbl2_ok : ∀ p ∈ tbl2, ∀ e ∈ p.2, PureOk Tryz.prog p.1 e := by
  unfold tbl2
  rw [List.forall_mem_cons, List.forall_mem_cons]
  refine ⟨tblSh_ok, ?_, tblNm_ok⟩
  show ∀ e ∈ [fitC, fitJ], PureOk Tryz.prog 291 e
  intro e he
  simp only [List.mem_cons, List.not_mem_nil, or_false] at he
  rcases he with rfl | rfl
  · exact ok_fitC
  · exact ok_fitJ
theorem X2_ok (n0 : Nat) (w0 : World) : XOk X2 n0 w0 := ⟨num_X, fun g e h args v s s' hr lm φ w L hR hm hl => ext_X h args v s s' hr n0 w0 lm φ w L hR hm hl, fun g e h args v s s' hr lm φ w L hR hm hl c cs => by
  have h' : sumT tbl2 g = some e := h
  unfold sumT at h'
  split at h'
  · next t ht =>
    obtain rfl := Option.some.inj h'
    exact memoA_sound (findT_ok tbl2_ok ht) hr hR hl c cs
  · cases h'⟩
end
end Go.Proofs.YtifcganfcjildaaGreatDoor.E

/- agoralaw19.awake answers true. -/
namespace Go.Proofs.YtifcganfcjildaaGreatDoor.E
open Go Go.RowKit
set_option linter.unusedVariables false
set_option linter.unusedSimpArgs false
set_option linter.unnecessarySimpa false
theorem run_awake19 : truthB ((callN X2 (runA X2 1000000) 33 []).run ⟨.nil, 0, 0, 0⟩) = true := by kernel_rfl
theorem awake19 (w : World) : Calls Tryz.prog 33 #[] w fun e w' => e = .returned (.bool true) ∧ Below w.heap.size w w' := calls_true X2_ok mixed_X run_awake19 w
end Go.Proofs.YtifcganfcjildaaGreatDoor.E

/- What agoralaw19.PendingNone does once the deed was small: it answers true, whatever the deed is. -/
namespace Go.Proofs.YtifcganfcjildaaGreatDoor.E
open Go Go.RowKit
set_option linter.unusedVariables false
set_option linter.unusedSimpArgs false
set_option linter.unnecessarySimpa false
noncomputable section
noncomputable def rest19 : Code := sndC (sndC (bodyC Tryz.f6))
noncomputable def tbl19 : List (Nat × List Ent) := [(33, [⟨[], [], .bool true⟩])]
noncomputable def X19 : Ctx := ⟨Tryz.prog, extX, sumT tbl19⟩
theorem tbl19_ok : ∀ p ∈ tbl19, ∀ e ∈ p.2, PureOk Tryz.prog p.1 e := by
  unfold tbl19
  simp only [List.forall_mem_cons, List.not_mem_nil, false_imp_iff, implies_true, and_true]
  exact pureOk_true awake19
theorem X19_ok (n0 : Nat) (w0 : World) : XOk X19 n0 w0 := ⟨num_X, fun g e h args v s s' hr lm φ w L hR hm hl => ext_X h args v s s' hr n0 w0 lm φ w L hR hm hl, fun g e h args v s s' hr lm φ w L hR hm hl c cs => by
  have h' : sumT tbl19 g = some e := h
  unfold sumT at h'
  split at h'
  · next t ht =>
    obtain rfl := Option.some.inj h'
    exact memoA_sound (findT_ok tbl19_ok ht) hr hR hl c cs
  · cases h'⟩
/-- A deed's cells: its peer, its event's name and room are told. -/
def cells19 (p : Int) (n r : List Nat) : List AV := .opq :: .int .i64 p :: .str n :: .str r :: List.replicate 15 .opq
theorem run_none19 (p : Int) (n r : List Nat) : restB X19 1000000 6 111 [(1, .ptr 0 0)] [cells19 p n r] [rest19] = true := by
  rcases p with (_ | m) | (_ | m) <;> rcases n with _ | ⟨a, n⟩ <;> rcases r with _ | ⟨b, r⟩
  all_goals (as_aux_lemma => kernel_rfl)
end
end Go.Proofs.YtifcganfcjildaaGreatDoor.E

