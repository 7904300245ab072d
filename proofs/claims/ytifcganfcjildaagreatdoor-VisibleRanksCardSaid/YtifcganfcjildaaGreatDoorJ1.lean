/- Merged out of: NoGo, RX, RShC, RShJ, RShM, RX1, RFitC, RFitJ, RNm, RX2, RA33, HandA33. -/
import Derived.KernelRfl
import Derived.SevenTiedAt
import Derived.Test.YtifcganfcjildaaGreatDoorProg
import Derived.Test.YtifcganfcjildaaGreatDoorJ15
import Derived.Test.YtifcganfcjildaaGreatDoorJ5
/- Where no function of the program starts a goroutine, no call does. -/
namespace Go.Proofs.YtifcganfcjildaaGreatDoor.NoGo
theorem goes_none {P : Program} (h : P.funcs.any Func.goes = false) (f : FuncId) : P.goes f = false := by
  have h1 : ∀ g : Nat, (P.funcs[g]?).any Func.goes = false := by
    intro g
    cases hg : P.funcs[g]? with
    | none => rfl
    | some fn =>
      rw [Array.any_eq_false] at h
      obtain ⟨hlt, e⟩ := Array.getElem?_eq_some_iff.1 hg
      have := h g hlt
      rw [e] at this
      simpa using this
  unfold Program.goes
  rw [h, Bool.and_false, Bool.or_false]
  simp only [h1]
  simp
theorem goesBy_none {P : Program} {c : OpenClaim} (h : P.funcs.any Func.goes = false) (hs : c.start = .entering) : false = c.goesBy P := by
  unfold OpenClaim.goesBy Program.goesAt Program.goesFrom
  rw [hs]
  cases P.funcNamed c.func with
  | none => rfl
  | some f => simp [goes_none h]
theorem none_goes : Tryz.prog.funcs.any Func.goes = false := by kernel_rfl
end Go.Proofs.YtifcganfcjildaaGreatDoor.NoGo

/- The machine over names at this program: what stands beside the code, and what is known of the events that the examples speak of. -/
namespace Go.Proofs.YtifcganfcjildaaGreatDoor.E
open Go Go.RowKit
set_option linter.unusedVariables false
set_option linter.unusedSimpArgs false
set_option linter.unnecessarySimpa false
noncomputable section

def extX (g : FuncId) : Option (List AV → Fr AV) := match Nat.beq g 443 with
  | true => some idxA
  | false => match Nat.beq g 163 with
    | true => some cloneA
    | false => none
def X0 : Ctx := ⟨Tryz.prog, extX, fun _ => none⟩
theorem num_all : (Tryz.prog.funcs.toList.all fun fn => !(fn.name == "runtime.NumGoroutine")) = true := by kernel_rfl
theorem num_X (g : Nat) (fn : Func) (h : Tryz.prog.funcs[g]? = some fn) : (fn.name == "runtime.NumGoroutine") = false := by
  have h1 := num_all
  rw [List.all_eq_true] at h1
  have h2 : fn ∈ Tryz.prog.funcs.toList := by
    rw [Array.mem_toList_iff]
    exact Array.mem_of_getElem? h
  simpa using h1 fn h2
theorem ext_X {g : FuncId} {e : List AV → Fr AV} (h : extX g = some e) : ExtOk Tryz.prog g e := by
  unfold extX at h
  split at h
  · next hb =>
    have := Nat.eq_of_beq_eq_true hb
    subst this
    obtain rfl := Option.some.inj h
    exact idx_ok Tryz.func443 (num_X _ _ Tryz.func443) (by rfl) (by kernel_rfl) (by kernel_rfl)
  · split at h
    · next hb =>
      have := Nat.eq_of_beq_eq_true hb
      subst this
      obtain rfl := Option.some.inj h
      exact clone_ok Tryz.func163 (num_X _ _ Tryz.func163) (by rfl) (by kernel_rfl) (by kernel_rfl)
    · cases h
theorem mixed_X : Tryz.prog.follows .mixedOrders = true := by kernel_rfl
theorem X0_ok (n0 : Nat) (w0 : World) : XOk X0 n0 w0 := ⟨num_X, fun g e h args v s s' hr lm φ w L hR hm hl => ext_X h args v s s' hr n0 w0 lm φ w L hR hm hl, fun g e h => by cases h⟩
/-! ### Events -/
def tx (l : List Nat) : AV := .str l
def nn (n : Nat) : AV := .int .i64 (Int.ofNat n)
def sl1 (h es : Nat) : AV := .sl h 0 1 es (some 1)
def evA (room type sender : List Nat) (st : Bool) (key : List Nat) (c : List AV) (prev auth : AV) (depth ts : Nat) : AV := .agg ([.str room, .str type, .str sender, .bool st, .str key] ++ c ++ [prev, auth, nn depth, nn ts, .str [], .nils])
def txtA (s : List Nat) : List AV := [nn 3, nn 0, .str s, .nils, .nils]
def mapA : List AV := [nn 5, nn 0, .str [], sl1 0 1, sl1 1 5]
def tCreate : List Nat := [109, 46, 114, 111, 111, 109, 46, 99, 114, 101, 97, 116, 101]
def tMember : List Nat := [109, 46, 114, 111, 111, 109, 46, 109, 101, 109, 98, 101, 114]
def tMessage : List Nat := [109, 46, 114, 111, 111, 109, 46, 109, 101, 115, 115, 97, 103, 101]
def roomN : List Nat := [33, 114, 58, 115, 49]
def usA : List Nat := [64, 97, 58, 115, 49]
def usB2 : List Nat := [64, 98, 58, 115, 50]
def nmE : List Nat := [36, 65, 65, 65, 65, 65, 65, 65, 65, 65, 65, 69]
def nmI : List Nat := [36, 65, 65, 65, 65, 65, 65, 65, 65, 65, 65, 73]
def wCreator : List Nat := [99, 114, 101, 97, 116, 111, 114]
def wMembership : List Nat := [109, 101, 109, 98, 101, 114, 115, 104, 105, 112]
def wJoin : List Nat := [106, 111, 105, 110]
/-- The room's beginning; its maker joins; one who is not there speaks. -/
def evC : AV := evA roomN tCreate usA true [] mapA .nils .nils 0 0
def cellsC : List (List AV) := [[.str wCreator], txtA usA]
def evJ : AV := evA roomN tMember usA true usA mapA (sl1 2 1) (sl1 3 1) 1 0
def cellsJ : List (List AV) := [[.str wMembership], txtA wJoin, [.str nmE], [.str nmE]]
def evM : AV := evA roomN tMessage usB2 false [] [nn 5, nn 0, .str [], .nils, .nils] (sl1 0 1) (sl1 1 1) 2 0
def cellsM : List (List AV) := [[.str nmI], [.str nmE]]
def shC : Ent := ⟨[evC], cellsC, nn 0⟩
def shJ : Ent := ⟨[evJ], cellsJ, nn 0⟩
def shM : Ent := ⟨[evM], cellsM, nn 0⟩
end
end Go.Proofs.YtifcganfcjildaaGreatDoor.E

/- An event's shape, run. -/
namespace Go.Proofs.YtifcganfcjildaaGreatDoor.E
open Go Go.RowKit
set_option linter.unusedVariables false
set_option linter.unusedSimpArgs false
set_option linter.unnecessarySimpa false
theorem run_shC : pureB X0 1000000 85 shC = true := by kernel_rfl
theorem ok_shC : PureOk Tryz.prog 85 shC := pure_of_run X0_ok mixed_X run_shC
end Go.Proofs.YtifcganfcjildaaGreatDoor.E

/- An event's shape, run. -/
namespace Go.Proofs.YtifcganfcjildaaGreatDoor.E
open Go Go.RowKit
set_option linter.unusedVariables false
set_option linter.unusedSimpArgs false
set_option linter.unnecessarySimpa false
theorem run_shJ : pureB X0 1000000 85 shJ = true := by kernel_rfl
theorem ok_shJ : PureOk Tryz.prog 85 shJ := pure_of_run X0_ok mixed_X run_shJ
end Go.Proofs.YtifcganfcjildaaGreatDoor.E

/- An event's shape, run. -/
namespace Go.Proofs.YtifcganfcjildaaGreatDoor.E
open Go Go.RowKit
set_option linter.unusedVariables false
set_option linter.unusedSimpArgs false
set_option linter.unnecessarySimpa false
theorem run_shM : pureB X0 1000000 85 shM = true := by kernel_rfl
theorem ok_shM : PureOk Tryz.prog 85 shM := pure_of_run X0_ok mixed_X run_shM
end Go.Proofs.YtifcganfcjildaaGreatDoor.E

/- The machine over names, with what is known of events' shapes. -/
namespace Go.Proofs.YtifcganfcjildaaGreatDoor.E
open Go Go.RowKit
set_option linter.unusedVariables false
set_option linter.unusedSimpArgs false
set_option linter.unnecessarySimpa false
noncomputable section
def tblSh : List Ent := [shC, shJ, shM]
def sumX (g : FuncId) : Option (List AV → Fr AV) := match Nat.beq g 85 with
  | true => some (memoA tblSh)
  | false => none
def X1 : Ctx := ⟨Tryz.prog, extX, sumX⟩
theorem tblSh_ok : ∀ e ∈ tblSh, PureOk Tryz.prog 85 e := by
  intro e he
  unfold tblSh at he
  simp only [List.mem_cons, List.not_mem_nil, or_false] at he
  rcases he with rfl | rfl | rfl
  · exact ok_shC
  · exact ok_shJ
  · exact ok_shM
theorem X1_ok (n0 : Nat) (w0 : World) : XOk X1 n0 w0 := ⟨num_X, fun g e h args v s s' hr lm φ w L hR hm hl => ext_X h args v s s' hr n0 w0 lm φ w L hR hm hl, fun g e h args v s s' hr lm φ w L hR hm hl c cs => by
  have h' : sumX g = some e := h
  unfold sumX at h'
  split at h'
  · next hb =>
    have := Nat.eq_of_beq_eq_true hb
    subst this
    obtain rfl := Option.some.inj h'
    exact memoA_sound tblSh_ok hr hR hl c cs
  · cases h'⟩
end
end Go.Proofs.YtifcganfcjildaaGreatDoor.E

/- The document's measure of an event, run. -/
namespace Go.Proofs.YtifcganfcjildaaGreatDoor.E
open Go Go.RowKit
set_option linter.unusedVariables false
set_option linter.unusedSimpArgs false
set_option linter.unnecessarySimpa false
noncomputable def fitC : Ent := ⟨[evC], cellsC, .bool true⟩
theorem run_fitC : pureB X0 1000000 291 fitC = true := by kernel_rfl
theorem ok_fitC : PureOk Tryz.prog 291 fitC := pure_of_run X0_ok mixed_X run_fitC
end Go.Proofs.YtifcganfcjildaaGreatDoor.E

/- The document's measure of an event, run. -/
namespace Go.Proofs.YtifcganfcjildaaGreatDoor.E
open Go Go.RowKit
set_option linter.unusedVariables false
set_option linter.unusedSimpArgs false
set_option linter.unnecessarySimpa false
noncomputable def fitJ : Ent := ⟨[evJ], cellsJ, .bool true⟩
theorem run_fitJ : pureB X0 1000000 291 fitJ = true := by kernel_rfl
theorem ok_fitJ : PureOk Tryz.prog 291 fitJ := pure_of_run X0_ok mixed_X run_fitJ
end Go.Proofs.YtifcganfcjildaaGreatDoor.E

/- What is known of names, run: which are events' and users', and whose home is where. -/
namespace Go.Proofs.YtifcganfcjildaaGreatDoor.E
open Go Go.RowKit
set_option linter.unusedVariables false
set_option linter.unusedSimpArgs false
set_option linter.unnecessarySimpa false
noncomputable section
def homeN : List Nat := [115, 49]
def yesE (l : List Nat) : Ent := ⟨[.str l], [], .bool true⟩
def homeE (l : List Nat) : Ent := ⟨[.str l], [], .str homeN⟩
theorem r_ev1 : pureB X0 1000000 117 (yesE nmE) = true := by kernel_rfl
theorem r_ev2 : pureB X0 1000000 117 (yesE nmI) = true := by kernel_rfl
theorem r_rev1 : pureB X0 1000000 292 (yesE nmE) = true := by kernel_rfl
theorem r_rev2 : pureB X0 1000000 292 (yesE nmI) = true := by kernel_rfl
theorem r_rus : pureB X0 1000000 376 (yesE usA) = true := by kernel_rfl
theorem r_ho1 : pureB X0 1000000 133 (homeE roomN) = true := by kernel_rfl
theorem r_ho2 : pureB X0 1000000 133 (homeE usA) = true := by kernel_rfl
theorem r_rho1 : pureB X0 1000000 474 (homeE roomN) = true := by kernel_rfl
theorem r_rho2 : pureB X0 1000000 474 (homeE usA) = true := by kernel_rfl
/-- What is known, function by function. -/
def findT : List (Nat × List Ent) → Nat → Option (List Ent)
  | [], _ => none
  | (k, t) :: l, g => match Nat.beq g k with
    | true => some t
    | false => findT l g
def sumT (T : List (Nat × List Ent)) (g : FuncId) : Option (List AV → Fr AV) := match findT T g with
  | some t => some (memoA t)
  | none => none
theorem findT_ok {P : Program} : ∀ {T : List (Nat × List Ent)} {g : Nat} {t : List Ent}, (∀ p ∈ T, ∀ e ∈ p.2, PureOk P p.1 e) → findT T g = some t → ∀ e ∈ t, PureOk P g e
  | [], g, t, _, h => by cases h
  | (k, u) :: l, g, t, hT, h => by
    unfold findT at h
    split at h
    · next hb =>
      have := Nat.eq_of_beq_eq_true hb
      subst this
      obtain rfl := Option.some.inj h
      exact hT (g, u) (List.mem_cons_self ..)
    · exact findT_ok (fun p hp => hT p (List.mem_cons_of_mem _ hp)) h
def tblNm : List (Nat × List Ent) := [(117, [yesE nmE, yesE nmI]), (292, [yesE nmE, yesE nmI]), (376, [yesE usA]), (133, [homeE roomN, homeE usA]), (474, [homeE roomN, homeE usA])]
theorem tblNm_ok : ∀ p ∈ tblNm, ∀ e ∈ p.2, PureOk Tryz.prog p.1 e := by
  unfold tblNm
  simp only [List.forall_mem_cons, List.not_mem_nil, false_imp_iff, implies_true, and_true]
  exact ⟨⟨pure_of_run X0_ok mixed_X r_ev1, pure_of_run X0_ok mixed_X r_ev2⟩, ⟨pure_of_run X0_ok mixed_X r_rev1, pure_of_run X0_ok mixed_X r_rev2⟩, pure_of_run X0_ok mixed_X r_rus, ⟨pure_of_run X0_ok mixed_X r_ho1, pure_of_run X0_ok mixed_X r_ho2⟩, pure_of_run X0_ok mixed_X r_rho1, pure_of_run X0_ok mixed_X r_rho2⟩
end
end Go.Proofs.YtifcganfcjildaaGreatDoor.E

/- The machine over names, with what is known of two events' shapes and measures, and of names. -/
namespace Go.Proofs.YtifcganfcjildaaGreatDoor.E
open Go Go.RowKit
set_option linter.unusedVariables false
set_option linter.unusedSimpArgs false
set_option linter.unnecessarySimpa false
noncomputable section
def tbl2 : List (Nat × List Ent) := (85, tblSh) :: (291, [fitC, fitJ]) :: tblNm
def X2 : Ctx := ⟨Tryz.prog, extX, sumT tbl2⟩
theorem tbl2_ok : ∀ p ∈ tbl2, ∀ e ∈ p.2, PureOk Tryz.prog p.1 e := by
  unfold tbl2
  rw [List.forall_mem_cons, List.forall_mem_cons]
  refine ⟨tblSh_ok, ?_, tblNm_ok⟩
  show ∀ e ∈ [fitC, fitJ], PureOk Tryz.prog 291 e
  intro e he
  simp only [List.mem_cons, List.not_mem_nil, or_false] at he
  rcases he with rfl | rfl
  · exact ok_fitC
  · exact ok_fitJ
theorem X2_ok (n0 : Nat) (w0 : World) : XOk X2 n0 w0 := ⟨num_X, fun g e h args v s s' hr lm φ w L hR hm hl => ext_X h args v s s' hr n0 w0 lm φ w L hR hm hl, fun g e h args v s s' hr lm φ w L hR hm hl c cs => by
  have h' : sumT tbl2 g = some e := h
  unfold sumT at h'
  split at h'
  · next t ht =>
    obtain rfl := Option.some.inj h'
    exact memoA_sound (findT_ok tbl2_ok ht) hr hR hl c cs
  · cases h'⟩
end
end Go.Proofs.YtifcganfcjildaaGreatDoor.E

/- agoralaw33.awake answers true. -/
namespace Go.Proofs.YtifcganfcjildaaGreatDoor.E
open Go Go.RowKit
set_option linter.unusedVariables false
set_option linter.unusedSimpArgs false
set_option linter.unnecessarySimpa false
theorem run_awake33 : truthB ((callN X2 (runA X2 1000000) 36 []).run ⟨.nil, 0, 0, 0⟩) = true := by kernel_rfl
theorem awake33 (w : World) : Calls Tryz.prog 36 #[] w fun e w' => e = .returned (.bool true) ∧ Below w.heap.size w w' := calls_true X2_ok mixed_X run_awake33 w
end Go.Proofs.YtifcganfcjildaaGreatDoor.E

/- agoralaw33.awake, in the print's form: it answers true. -/
namespace Go.Proofs.YtifcganfcjildaaGreatDoor.V
open Go.RowKit Go.Proofs.YtifcganfcjildaaGreatDoorW.PrintWords Go.Proofs.YtifcganfcjildaaGreatDoorW.PrintLast Go.Proofs.YtifcganfcjildaaGreatDoorW.PrintMore
set_option linter.unusedVariables false
def agoralaw33_awake.f (k : Nat) : Option Bool := some true
theorem agoralaw33_awake.mono : ∀ k, LeO (agoralaw33_awake.f k) (agoralaw33_awake.f (k + 1)) := fun k r h => h
theorem agoralaw33_awake.calls (k : Nat) (r : Bool) (w : World) (h : agoralaw33_awake.f k = some r) :
    Calls Tryz.prog 36 #[] w fun e w' => e = .returned (.bool r) ∧ Below w.heap.size w w' := by
  obtain rfl := Option.some.inj h
  exact E.awake33 w
end Go.Proofs.YtifcganfcjildaaGreatDoor.V

