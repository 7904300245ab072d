/- Merged out of: Tabs, PureTable, Qx10, HandAfter, HandPart. -/
import Derived.Test.YtodhmbnfliajiaaGreatDoorWWords
import Derived.Test.YtodhmbnfliajiaaGreatDoorShelf
import Derived.Lib.LaidU8
import Derived.Test.YtodhmbnfliajiaaGreatDoorJ11
import Derived.Test.YtodhmbnfliajiaaGreatDoorQx0
import Derived.Test.YtodhmbnfliajiaaGreatDoorJ9
import Derived.WalkKit
import Derived.WalkSpells
import Derived.Lib.Hide
import Derived.Laws.Rows
import Derived.BigFrame
/- Tabs: a text of this claim's proof, as printed or written, without what the claim does not use. -/
namespace Go.Proofs.YtodhmbnfliajiaaGreatDoor.Q
open Go.RowKit Go.Shelf Go.Proofs.YtodhmbnfliajiaaGreatDoorW.PrintWords
def Tabs (w : World) : Prop := Lib.Utf8Tabs 1 2 w ∧ ∃ m : Int, w.cell? ⟨0, 0, none⟩ = some (.int .i64 m)
theorem Tabs.below {w W : World} (h : Tabs w) (hb : Below w.heap.size w W) : Tabs W := by
  obtain ⟨⟨h1, h2⟩, m, h3⟩ := h
  exact ⟨⟨fun c hc => pw_cell_below hb (h1 c hc), fun i hi => ⟨pw_cell_below hb (h2 i hi).1, pw_cell_below hb (h2 i hi).2⟩⟩, m, pw_cell_below hb h3⟩
end Go.Proofs.YtodhmbnfliajiaaGreatDoor.Q

/- PureTable: a text of this claim's proof, as printed or written, without what the claim does not use. -/
namespace Go.Proofs.YtodhmbnfliajiaaGreatDoor.Q
open Go.RowKit Go.Proofs.YtodhmbnfliajiaaGreatDoorW.PrintWords Go.Proofs.YtodhmbnfliajiaaGreatDoorW.PrintLast
end Go.Proofs.YtodhmbnfliajiaaGreatDoor.Q

/- Qx10: a text of this claim's proof, as printed or written, without what the claim does not use. -/
namespace Go.Proofs.YtodhmbnfliajiaaGreatDoor.Q
open Go.RowKit Go.Proofs.YtodhmbnfliajiaaGreatDoorW.PrintWords Go.Proofs.YtodhmbnfliajiaaGreatDoorW.PrintLast Go.Proofs.YtodhmbnfliajiaaGreatDoorW.PrintMore
attribute [local go_sem] max2_int min2_int max_two min_two max_three min_three max_four min_four
set_option linter.unusedVariables false
set_option linter.unusedSimpArgs false
def agoraref23_word.f (a0 : ByteArray) : Option (Bool) := if 0 < (a0.size : Int) then (if (a0.size : Int) > 1 then (some true) else (if (bt a0 0) ≥ 97 then (if (bt a0 0) ≤ 122 then (some true) else (if (bt a0 0) ≥ 65 then (if (bt a0 0) ≤ 90 then (some true) else (if (bt a0 0) ≥ 48 then (if (bt a0 0) ≤ 57 then (some true) else (some ((bt a0 0) == 95))) else (some ((bt a0 0) == 95)))) else (if (bt a0 0) ≥ 48 then (if (bt a0 0) ≤ 57 then (some true) else (some ((bt a0 0) == 95))) else (some ((bt a0 0) == 95))))) else (if (bt a0 0) ≥ 65 then (if (bt a0 0) ≤ 90 then (some true) else (if (bt a0 0) ≥ 48 then (if (bt a0 0) ≤ 57 then (some true) else (some ((bt a0 0) == 95))) else (some ((bt a0 0) == 95)))) else (if (bt a0 0) ≥ 48 then (if (bt a0 0) ≤ 57 then (some true) else (some ((bt a0 0) == 95))) else (some ((bt a0 0) == 95)))))) else (none)
end Go.Proofs.YtodhmbnfliajiaaGreatDoor.Q

/- HandAfter: a text of this claim's proof, as printed or written, without what the claim does not use. -/
namespace Go.Proofs.YtodhmbnfliajiaaGreatDoor.Q
open Go.RowKit Go.Proofs.YtodhmbnfliajiaaGreatDoorW.PrintWords Go.Proofs.YtodhmbnfliajiaaGreatDoorW.PrintLast
end Go.Proofs.YtodhmbnfliajiaaGreatDoor.Q

/- HandPart: a text of this claim's proof, as printed or written, without what the claim does not use. -/
namespace Go.Proofs.YtodhmbnfliajiaaGreatDoor.Q
open Go
section
variable {P : Program}
theorem run_loadVar_part (w : World) (g off : Nat) (t ty : TypeId) (cs ps : Array Value) (fr : Nat × Nat) (d : TypeDesc) (hg : w.heap[g]? = some (.cells cs t fr)) (hp : ps.toList = (cs.toList.drop off).take ps.size)
    (hu : P.underlying ty = some d) (hd : (match d with | .struct _ | .array _ _ => true | _ => false) = true) (hi : (P.info? ty).map (·.size) = some ps.size) :
    (loadVar ty ⟨g, off, none⟩).run P w = .ok (.agg ps) w := by
  have hl : (loadCells ⟨g, off, none⟩ ps.toList.length).run P w = .ok ps.toList.toArray w :=
    run_loadCells_list (P := P) w ⟨g, off, none⟩ ps.toList (fun j v hv => by
      have hadd : (⟨g, off, none⟩ : Addr).add j = ⟨g, off + j, none⟩ := by unfold Addr.add; split <;> simp_all
      rw [hadd, cell_of_row w g (off + j) cs t fr hg]
      rw [hp] at hv
      have hj : j < ps.size := by
        have := (List.getElem?_eq_some_iff.1 hv).1
        rw [List.length_take] at this; omega
      rw [List.getElem?_take_of_lt hj, List.getElem?_drop] at hv
      simpa using hv)
  cases hq : P.info? ty with
  | none => simp [hq] at hi
  | some i =>
    have hs : i.size = ps.size := by simpa [hq] using hi
    have hagg : (isAgg ty).run P w = .ok true w := by
      unfold isAgg
      rw [Sem.run_bind, run_underlying hu w]
      cases d <;> simp_all
    simp only [Array.length_toList, Array.toArray_toList] at hl
    simp [loadVar, Sem.run_bind, hagg, sizeOf, typeInfo, hq, hs, hl]
theorem wp_load_part {o : Oper} {a : Act} {w : World} {K : Act → World → Prop} {Q : Exit → Act → World → Prop} (ty : TypeId) (x : Operand) (ho : o.op = .load ty x)
    (g off : Nat) (hx : a.eval x = .pointer (some ⟨g, off, none⟩)) (t : TypeId) (cs ps : Array Value) (fr : Nat × Nat) (d : TypeDesc) (hg : w.heap[g]? = some (.cells cs t fr)) (hp : ps.toList = (cs.toList.drop off).take ps.size)
    (hu : P.underlying ty = some d) (hd : (match d with | .struct _ | .array _ _ => true | _ => false) = true) (hi : (P.info? ty).map (·.size) = some ps.size)
    (h : K (a.put o.dst (.agg ps)) w) : o.wp P a w K Q := by
  unfold Oper.wp execOp
  simp only [ho, hx, Instr.loadAt, Instr.sureAddr, Sem.run_bind, Sem.run_pure, Result.andThen_ok, run_loadVar_part w g off t ty cs ps fr d hg hp hu hd hi]
  exact h
theorem wpList_load_part {ops : Array Oper} {rest : List Oper} {o : Oper} {a : Act} {w : World} {Q : Exit → Act → World → Prop} (hw : Region.wanted o (yielded ops a.tmps) = true) (ty : TypeId) (x : Operand) (ho : o.op = .load ty x)
    (g off : Nat) (hx : a.eval x = .pointer (some ⟨g, off, none⟩)) (t : TypeId) (cs ps : Array Value) (fr : Nat × Nat) (d : TypeDesc) (hg : w.heap[g]? = some (.cells cs t fr)) (hp : ps.toList = (cs.toList.drop off).take ps.size)
    (hu : P.underlying ty = some d) (hd : (match d with | .struct _ | .array _ _ => true | _ => false) = true) (hi : (P.info? ty).map (·.size) = some ps.size)
    (h : wpList P ops Q rest (a.put o.dst (.agg ps)) w) : wpList P ops Q (o :: rest) a w :=
  wpList_step fun _ hK => by rw [if_pos hw]; exact wp_load_part ty x ho g off hx t cs ps fr d hg hp hu hd hi (hK _ _ h)
end
end Go.Proofs.YtodhmbnfliajiaaGreatDoor.Q

