/- Merged out of: Tabs, RX, RNm, RShC, RShJ, RShM. -/
import Derived.Test.YtifcganfcjildaaGreatDoorWWords
import Derived.Test.YtifcganfcjildaaGreatDoorJ7
import Derived.Lib.LaidU8
import Derived.Test.YtifcganfcjildaaGreatDoorJ16
import Derived.Test.YtifcganfcjildaaGreatDoorProg
import Derived.KernelRfl
/- Tabs: a text of this claim's proof, as printed or written, without what the claim does not use. -/
namespace Go.Proofs.YtifcganfcjildaaGreatDoor.K
open Go.RowKit Go.Shelf Go.Proofs.YtifcganfcjildaaGreatDoorW.PrintWords
def Tabs (w : World) : Prop := Lib.Utf8Tabs 0 1 w ∧ ∃ m : Int, w.cell? ⟨2, 0, none⟩ = some (.int .i64 m)
theorem Tabs.below {w W : World} (h : Tabs w) (hb : Below w.heap.size w W) : Tabs W := by
  obtain ⟨⟨h1, h2⟩, m, h3⟩ := h
  exact ⟨⟨fun c hc => pw_cell_below hb (h1 c hc), fun i hi => ⟨pw_cell_below hb (h2 i hi).1, pw_cell_below hb (h2 i hi).2⟩⟩, m, pw_cell_below hb h3⟩
end Go.Proofs.YtifcganfcjildaaGreatDoor.K

/- The machine over names at this program: what stands beside the code, and what is known of the events that the examples speak of. -/
namespace Go.Proofs.YtifcganfcjildaaGreatDoor.E
open Go Go.RowKit
set_option linter.unusedVariables false
set_option linter.unusedSimpArgs false
set_option linter.unnecessarySimpa false
noncomputable section

def extX (g : FuncId) : Option (List AV → Fr AV) := match Nat.beq g 443 with
  | true => some idxA
  | false => match Nat.beq g 163 with
    | true => some cloneA
    | false => none
def X0 : Ctx := ⟨Tryz.prog, extX, fun _ => none⟩
theorem num_all : (Tryz.prog.funcs.toList.all fun fn => !(fn.name == "runtime.NumGoroutine")) = true := by kernel_rfl
theorem num_X (g : Nat) (fn : Func) (h : Tryz.prog.funcs[g]? = some fn) : (fn.name == "runtime.NumGoroutine") = false := by
  have h1 := num_all
  rw [List.all_eq_true] at h1
  have h2 : fn ∈ Tryz.prog.funcs.toList := by
    rw [Array.mem_toList_iff]
    exact Array.mem_of_getElem? h
  simpa using h1 fn h2
theorem ext_X {g : FuncId} {e : List AV → Fr AV} (h : extX g = some e) : ExtOk Tryz.prog g e := by
  unfold extX at h
  split at h
  · next hb =>
    have := Nat.eq_of_beq_eq_true hb
    subst this
    obtain rfl := Option.some.inj h
    exact idx_ok Tryz.func443 (num_X _ _ Tryz.func443) (by rfl) (by kernel_rfl) (by kernel_rfl)
  · split at h
    · next hb =>
      have := Nat.eq_of_beq_eq_true hb
      subst this
      obtain rfl := Option.some.inj h
      exact clone_ok Tryz.func163 (num_X _ _ Tryz.func163) (by rfl) (by kernel_rfl) (by kernel_rfl)
    · cases h
theorem mixed_X : Tryz.prog.follows .mixedOrders = true := by kernel_rfl
theorem X0_ok (n0 : Nat) (w0 : World) : XOk X0 n0 w0 := ⟨num_X, fun g e h args v s s' hr lm φ w L hR hm hl => ext_X h args v s s' hr n0 w0 lm φ w L hR hm hl, fun g e h => by cases h⟩
/-! ### Events -/
def tx (l : List Nat) : AV := .str l
def nn (n : Nat) : AV := .int .i64 (Int.ofNat n)
def sl1 (h es : Nat) : AV := .sl h 0 1 es (some 1)
def evA (room type sender : List Nat) (st : Bool) (key : List Nat) (c : List AV) (prev auth : AV) (depth ts : Nat) : AV := .agg ([.str room, .str type, .str sender, .bool st, .str key] ++ c ++ [prev, auth, nn depth, nn ts, .str [], .nils])
def txtA (s : List Nat) : List AV := [nn 3, nn 0, .str s, .nils, .nils]
def mapA : List AV := [nn 5, nn 0, .str [], sl1 0 1, sl1 1 5]
def tCreate : List Nat := [109, 46, 114, 111, 111, 109, 46, 99, 114, 101, 97, 116, 101]
def tMember : List Nat := [109, 46, 114, 111, 111, 109, 46, 109, 101, 109, 98, 101, 114]
def tMessage : List Nat := [109, 46, 114, 111, 111, 109, 46, 109, 101, 115, 115, 97, 103, 101]
def roomN : List Nat := [33, 114, 58, 115, 49]
def usA : List Nat := [64, 97, 58, 115, 49]
def usB2 : List Nat := [64, 98, 58, 115, 50]
def nmE : List Nat := [36, 65, 65, 65, 65, 65, 65, 65, 65, 65, 65, 69]
def nmI : List Nat := [36, 65, 65, 65, 65, 65, 65, 65, 65, 65, 65, 73]
def wCreator : List Nat := [99, 114, 101, 97, 116, 111, 114]
def wMembership : List Nat := [109, 101, 109, 98, 101, 114, 115, 104, 105, 112]
def wJoin : List Nat := [106, 111, 105, 110]
/-- The room's beginning; its maker joins; one who is not there speaks. -/
def evC : AV := evA roomN tCreate usA true [] mapA .nils .nils 0 0
def cellsC : List (List AV) := [[.str wCreator], txtA usA]
def evJ : AV := evA roomN tMember usA true usA mapA (sl1 2 1) (sl1 3 1) 1 0
def cellsJ : List (List AV) := [[.str wMembership], txtA wJoin, [.str nmE], [.str nmE]]
def evM : AV := evA roomN tMessage usB2 false [] [nn 5, nn 0, .str [], .nils, .nils] (sl1 0 1) (sl1 1 1) 2 0
def cellsM : List (List AV) := [[.str nmI], [.str nmE]]
def shC : Ent := ⟨[evC], cellsC, nn 0⟩
def shJ : Ent := ⟨[evJ], cellsJ, nn 0⟩
def shM : Ent := ⟨[evM], cellsM, nn 0⟩
end
end Go.Proofs.YtifcganfcjildaaGreatDoor.E

/- What is known of names, run: which are events' and users', and whose home is where. -/
namespace Go.Proofs.YtifcganfcjildaaGreatDoor.E
open Go Go.RowKit
set_option linter.unusedVariables false
set_option linter.unusedSimpArgs false
set_option linter.unnecessarySimpa false
noncomputable section
def homeN : List Nat := [115, 49]
def yesE (l : List Nat) : Ent := ⟨[.str l], [], .bool true⟩
def homeE (l : List Nat) : Ent := ⟨[.str l], [], .str homeN⟩
theorem r_ev1 : pureB X0 1000000 117 (yesE nmE) = true := by kernel_rfl
theorem r_ev2 : pureB X0 1000000 117 (yesE nmI) = true := by kernel_rfl
theorem r_rev1 : pureB X0 1000000 292 (yesE nmE) = true := by kernel_rfl
theorem r_rev2 : pureB X0 1000000 292 (yesE nmI) = true := by kernel_rfl
theorem r_rus : pureB X0 1000000 376 (yesE usA) = true := by kernel_rfl
theorem r_ho1 : pureB X0 1000000 133 (homeE roomN) = true := by kernel_rfl
theorem r_ho2 : pureB X0 1000000 133 (homeE usA) = true := by kernel_rfl
theorem r_rho1 : pureB X0 1000000 474 (homeE roomN) = true := by kernel_rfl
theorem r_rho2 : pureB X0 1000000 474 (homeE usA) = true := by kernel_rfl
/-- What is known, function by function. -/
def findT : List (Nat × List Ent) → Nat → Option (List Ent)
  | [], _ => none
  | (k, t) :: l, g => match Nat.beq g k with
    | true => some t
    | false => findT l g
def sumT (T : List (Nat × List Ent)) (g : FuncId) : Option (List AV → Fr AV) := match findT T g with
  | some t => some (memoA t)
  | none => none
theorem findT_ok {P : Program} : ∀ {T : List (Nat × List Ent)} {g : Nat} {t : List Ent}, (∀ p ∈ T, ∀ e ∈ p.2, PureOk P p.1 e) → findT T g = some t → ∀ e ∈ t, PureOk P g e
  | [], g, t, _, h => by cases h
  | (k, u) :: l, g, t, hT, h => by
    unfold findT at h
    split at h
    · next hb =>
      have := Nat.eq_of_beq_eq_true hb
      subst this
      obtain rfl := Option.some.inj h
      exact hT (g, u) (List.mem_cons_self ..)
    · exact findT_ok (fun p hp => hT p (List.mem_cons_of_mem _ hp)) h
def tblNm : List (Nat × List Ent) := [(117, [yesE nmE, yesE nmI]), (292, [yesE nmE, yesE nmI]), (376, [yesE usA]), (133, [homeE roomN, homeE usA]), (474, [homeE roomN, homeE usA])]
theorem tblNm_ok : ∀ p ∈ tblNm, ∀ e ∈ p.2, PureOk Tryz.prog p.1 e := by
  unfold tblNm
  simp only [List.forall_mem_cons, List.not_mem_nil, false_imp_iff, implies_true, and_true]
  exact ⟨⟨pure_of_run X0_ok mixed_X r_ev1, pure_of_run X0_ok mixed_X r_ev2⟩, ⟨pure_of_run X0_ok mixed_X r_rev1, pure_of_run X0_ok mixed_X r_rev2⟩, pure_of_run X0_ok mixed_X r_rus, ⟨pure_of_run X0_ok mixed_X r_ho1, pure_of_run X0_ok mixed_X r_ho2⟩, pure_of_run X0_ok mixed_X r_rho1, pure_of_run X0_ok mixed_X r_rho2⟩
end
end Go.Proofs.YtifcganfcjildaaGreatDoor.E

/- An event's shape, run. -/
namespace Go.Proofs.YtifcganfcjildaaGreatDoor.E
open Go Go.RowKit
set_option linter.unusedVariables false
set_option linter.unusedSimpArgs false
set_option linter.unnecessarySimpa false
theorem run_shC : pureB X0 1000000 85 shC = true := by kernel_rfl
theorem ok_shC : PureOk Tryz.prog 85 shC := pure_of_run X0_ok mixed_X run_shC
end Go.Proofs.YtifcganfcjildaaGreatDoor.E

/- An event's shape, run. -/
namespace Go.Proofs.YtifcganfcjildaaGreatDoor.E
open Go Go.RowKit
set_option linter.unusedVariables false
set_option linter.unusedSimpArgs false
set_option linter.unnecessarySimpa false
theorem run_shJ : pureB X0 1000000 85 shJ = true := by kernel_rfl
theorem ok_shJ : PureOk Tryz.prog 85 shJ := pure_of_run X0_ok mixed_X run_shJ
end Go.Proofs.YtifcganfcjildaaGreatDoor.E

/- An event's shape, run. -/
namespace Go.Proofs.YtifcganfcjildaaGreatDoor.E
open Go Go.RowKit
set_option linter.unusedVariables false
set_option linter.unusedSimpArgs false
set_option linter.unnecessarySimpa false
theorem run_shM : pureB X0 1000000 85 shM = true := by kernel_rfl
theorem ok_shM : PureOk Tryz.prog 85 shM := pure_of_run X0_ok mixed_X run_shM
end Go.Proofs.YtifcganfcjildaaGreatDoor.E

