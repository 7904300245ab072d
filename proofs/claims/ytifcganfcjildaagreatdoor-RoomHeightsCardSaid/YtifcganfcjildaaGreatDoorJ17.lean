/- Merged out of: NoGo, E49, RX, RShC, RShJ, RShM, RX1. -/
import Derived.KernelRfl
import Derived.SevenTiedAt
import Derived.Test.YtifcganfcjildaaGreatDoorProg
import Derived.Laws.Externs
import Derived.Test.YtifcganfcjildaaGreatDoorE48
/- Where no function of the program starts a goroutine, no call does. -/
namespace Go.Proofs.YtifcganfcjildaaGreatDoor.NoGo
theorem goes_none {P : Program} (h : P.funcs.any Func.goes = false) (f : FuncId) : P.goes f = false := by
  have h1 : ∀ g : Nat, (P.funcs[g]?).any Func.goes = false := by
    intro g
    cases hg : P.funcs[g]? with
    | none => rfl
    | some fn =>
      rw [Array.any_eq_false] at h
      obtain ⟨hlt, e⟩ := Array.getElem?_eq_some_iff.1 hg
      have := h g hlt
      rw [e] at this
      simpa using this
  unfold Program.goes
  rw [h, Bool.and_false, Bool.or_false]
  simp only [h1]
  simp
theorem goesBy_none {P : Program} {c : OpenClaim} (h : P.funcs.any Func.goes = false) (hs : c.start = .entering) : false = c.goesBy P := by
  unfold OpenClaim.goesBy Program.goesAt Program.goesFrom
  rw [hs]
  cases P.funcNamed c.func with
  | none => rfl
  | some f => simp [goes_none h]
theorem none_goes : Tryz.prog.funcs.any Func.goes = false := by kernel_rfl
end Go.Proofs.YtifcganfcjildaaGreatDoor.NoGo

/- Functions without a body: the first place of a byte, a map's copy. -/
namespace Go.Proofs.YtifcganfcjildaaGreatDoor.E
open Go Go.RowKit
set_option linter.unusedVariables false
set_option linter.unusedSimpArgs false
set_option linter.unnecessarySimpa false
noncomputable section

def findB : List Nat → Nat → Nat → Int
  | [], _, _ => -1
  | a :: l, c, i => cd (Nat.beq a c) (Int.ofNat i) (findB l c (i + 1))
theorem findB_spec : ∀ (l : List Nat) (c k : Nat), (∃ i, ∃ h : i < l.length, l[i] = c ∧ (∀ j, (hj : j < i) → l[j]'(by omega) ≠ c) ∧ findB l c k = Int.ofNat (k + i)) ∨ ((∀ i, (h : i < l.length) → l[i] ≠ c) ∧ findB l c k = -1)
  | [], c, k => .inr ⟨fun i h => by simp at h, rfl⟩
  | a :: l, c, k => by
    unfold findB
    cases hb : Nat.beq a c with
    | true =>
      have := Nat.eq_of_beq_eq_true hb
      exact .inl ⟨0, by simp, by simpa using this, fun j hj => by omega, rfl⟩
    | false =>
      have hne : a ≠ c := fun e => by rw [e, Nat.beq_refl] at hb; cases hb
      rcases findB_spec l c (k + 1) with ⟨i, h, h1, h2, h3⟩ | ⟨h1, h2⟩
      · refine .inl ⟨i + 1, by simpa using h, by simpa using h1, fun j hj => ?_, ?_⟩
        · cases j with
          | zero => simpa using hne
          | succ j => simpa using h2 j (by omega)
        · show findB l c (k + 1) = _
          rw [h3]; congr 1; omega
      · refine .inr ⟨fun i h => ?_, h2⟩
        cases i with
        | zero => simpa using hne
        | succ i => simpa using h1 i (by simpa using h)
theorem firstIdx_eq (s : ByteArray) (c : Nat) (hc : c < 256) : firstIdx s c.toUInt8 = findB (s.data.toList.map (·.toNat)) c 0 := by
  have hl : (s.data.toList.map (·.toNat)).length = s.size := by simp
  have hget : ∀ (i : Nat) (h : i < s.size), (s.data.toList.map (·.toNat))[i]'(by rw [hl]; exact h) = (s[i]!).toNat := fun i h => by
    have hd : i < s.data.size := h
    rw [List.getElem_map]
    congr 1
    show s.data.toList[i] = s[i]!
    have : s[i]! = s.data[i] := by
      have h' : i < s.size := h
      simp [h']
      rfl
    rw [this]; rfl
  have hbeq : ∀ i : Nat, (s[i]! == c.toUInt8) = true ↔ (s[i]!).toNat = c := fun i => by
    rw [beq_iff_eq]
    constructor
    · intro e; rw [e]; show c % 256 = c; omega
    · intro e
      apply UInt8.toNat_inj.1
      rw [e]; show c = c % 256; omega
  unfold firstIdx
  cases hf : (List.range s.size).find? fun i => s[i]! == c.toUInt8 with
  | some i =>
    obtain ⟨h1, h2, h3⟩ := List.find?_range_eq_some.1 hf
    have hi : i < s.size := by simpa using h2
    rcases findB_spec (s.data.toList.map (·.toNat)) c 0 with ⟨k, hk, k1, k2, k3⟩ | ⟨k1, k2⟩
    · have hk' : k < s.size := by rw [← hl]; exact hk
      rw [k3]
      have e1 := (hbeq i).1 h1
      rw [hget k hk'] at k1
      have : k = i := by
        rcases Nat.lt_trichotomy k i with h | h | h
        · have := h3 k h
          rw [(hbeq k).2 k1] at this
          simp at this
        · exact h
        · exact absurd ((hget i hi).trans e1) (k2 i h)
      subst this
      simp
    · exact absurd ((hget i hi).trans ((hbeq i).1 h1)) (k1 i (by rw [hl]; exact hi))
  | none =>
    rw [List.find?_eq_none] at hf
    rcases findB_spec (s.data.toList.map (·.toNat)) c 0 with ⟨k, hk, k1, k2, k3⟩ | ⟨k1, k2⟩
    · have hk' : k < s.size := by rw [← hl]; exact hk
      rw [hget k hk'] at k1
      exact absurd ((hbeq k).2 k1) (hf k (List.mem_range.2 hk'))
    · exact k2.symm
def idxA (args : List AV) : Fr AV := match args with
  | [.str s, .int .u8 c] => cd (decide (0 ≤ c) && decide (c < 256)) (.ret (.int .i64 (findB s c.toNat 0))) .fail
  | _ => .fail
def cloneA (args : List AV) : Fr AV := match args with
  | [.iface t (.map h)] => (mapOf h).bind fun (es, c) => (Fr.new (.map es c)).bind fun n => .ret (.iface t (.map n))
  | _ => .fail
def ExtOk (P : Program) (g : FuncId) (e : List AV → Fr AV) : Prop := ∀ (args : List AV) (v : AV) (s s' : HS), (e args).run s = some (v, s') → ∀ (n0 : Nat) (w0 : World) (lm : Nat) (φ : Map) (w : World) (L : Array Value), Rel n0 w0 lm φ s w → s'.next ≤ lm → VRs φ args L.toList →
  ∃ ψ w' V, (callFunc g L).run P w = .ok (.value V) w' ∧ Ext s.next s'.next φ ψ ∧ Rel n0 w0 lm ψ s' w' ∧ VR ψ v V
section
variable {P : Program} {g : FuncId} {fn : Func} (hf : P.funcs[g]? = some fn) (hname : (fn.name == "runtime.NumGoroutine") = false) (hb : fn.body.isNone = true) (hn : Extern.findNext fn = none)
include hf hname hb hn
theorem idx_ok (he : Extern.find fn = some Extern.BytealgIndexByte.indexByte) : ExtOk P g idxA := by
  intro args v s s' hr n0 w0 lm φ w L h hm hl
  unfold idxA at hr
  split at hr
  · next l c =>
    obtain ⟨hc, hr⟩ := cond_run hr
    rw [Bool.and_eq_true, decide_eq_true_eq, decide_eq_true_eq] at hc
    obtain ⟨rfl, rfl⟩ := Fr.ret_run hr
    obtain ⟨L⟩ := L
    cases hl with
    | cons h1 ht =>
      cases ht with
      | cons h2 ht =>
        cases ht
        cases h1 with
        | @str _ bs e =>
          cases h2
          have hrun := run_callFunc_extern hf hname hb hn he #[.string bs, .int .u8 c] w
          rw [run_indexByte_string] at hrun
          refine ⟨φ, w, .int .i64 (firstIdx bs c.toNat.toUInt8), hrun, Ext.refl _ _ _, h, ?_⟩
          rw [firstIdx_eq bs c.toNat (by omega), e]
          exact .int _ _
  · cases hr
theorem clone_ok (he : Extern.find fn = some Extern.MapsClone.clone) : ExtOk P g cloneA := by
  intro args v s s' hr n0 w0 lm φ w L h hm hl
  unfold cloneA at hr
  split at hr
  · next t j =>
    obtain ⟨⟨es, c⟩, s1, h1, h2⟩ := Fr.bind_run hr
    obtain ⟨n, s2, h3, h4⟩ := Fr.bind_run h2
    obtain ⟨rfl, rfl⟩ := Fr.ret_run h4
    obtain ⟨r1, g1, g2, g3, p, E, e1, e2, e3⟩ := mapOf_sound h h1
    obtain ⟨L⟩ := L
    cases hl with
    | cons k1 kt =>
      cases kt
      cases k1 with
      | iface k2 =>
        cases k2 with
        | map hp =>
          obtain rfl := Option.some.inj (e1.symm.trans hp)
          obtain ⟨rfl, hnx, a1, a2⟩ := r1.new h3 hm (.map E c) 0 0 rfl (.map (e3.mono (r1.ext_add (by rw [← (Fr.new_run h3).2.1]; exact hm) _).le))
          have hg := run_getObj (P := P) e2 (by simp)
          have hrun := run_callFunc_extern hf hname hb hn he #[.iface t (.map (some p.b))] w
          have hcl : (Extern.MapsClone.clone #[.iface t (.map (some p.b))]).run P w = .ok (.iface t (.map (some w.heap.size))) (w.alloc (.map E c)) := by
            have e : Extern.MapsClone.clone #[.iface t (.map (some p.b))] = (getObj p.b >>= fun o => match o with
              | .map entries clock => (newObj (.map entries clock) >>= fun n => pure (.iface t (.map (some n))))
              | _ => stuck "maps.clone: a map expected") := rfl
            rw [e]
            simp [hg, run_newObj_alloc]
          rw [hcl] at hrun
          rw [g2] at a1 a2
          exact ⟨_, _, _, hrun, a1, a2, .iface (.map (p := ⟨w.heap.size, 0, 0⟩) (by simp [Map.add, g2]))⟩
  · cases hr
end
end
end Go.Proofs.YtifcganfcjildaaGreatDoor.E

/- The machine over names at this program: what stands beside the code, and what is known of the events that the examples speak of. -/
namespace Go.Proofs.YtifcganfcjildaaGreatDoor.E
open Go Go.RowKit
set_option linter.unusedVariables false
set_option linter.unusedSimpArgs false
set_option linter.unnecessarySimpa false
noncomputable section

def extX (g : FuncId) : Option (List AV → Fr AV) := match Nat.beq g 443 with
  | true => some idxA
  | false => match Nat.beq g 163 with
    | true => some cloneA
    | false => none
def X0 : Ctx := ⟨Tryz.prog, extX, fun _ => none⟩
theorem num_all : (Tryz.prog.funcs.toList.all fun fn => !(fn.name == "runtime.NumGoroutine")) = true := by kernel_rfl
theorem num_X (g : Nat) (fn : Func) (h : Tryz.prog.funcs[g]? = some fn) : (fn.name == "runtime.NumGoroutine") = false := by
  have h1 := num_all
  rw [List.all_eq_true] at h1
  have h2 : fn ∈ Tryz.prog.funcs.toList := by
    rw [Array.mem_toList_iff]
    exact Array.mem_of_getElem? h
  simpa using h1 fn h2
theorem ext_X {g : FuncId} {e : List AV → Fr AV} (h : extX g = some e) : ExtOk Tryz.prog g e := by
  unfold extX at h
  split at h
  · next hb =>
    have := Nat.eq_of_beq_eq_true hb
    subst this
    obtain rfl := Option.some.inj h
    exact idx_ok Tryz.func443 (num_X _ _ Tryz.func443) (by rfl) (by kernel_rfl) (by kernel_rfl)
  · split at h
    · next hb =>
      have := Nat.eq_of_beq_eq_true hb
      subst this
      obtain rfl := Option.some.inj h
      exact clone_ok Tryz.func163 (num_X _ _ Tryz.func163) (by rfl) (by kernel_rfl) (by kernel_rfl)
    · cases h
theorem mixed_X : Tryz.prog.follows .mixedOrders = true := by kernel_rfl
theorem X0_ok (n0 : Nat) (w0 : World) : XOk X0 n0 w0 := ⟨num_X, fun g e h args v s s' hr lm φ w L hR hm hl => ext_X h args v s s' hr n0 w0 lm φ w L hR hm hl, fun g e h => by cases h⟩
/-! ### Events -/
def tx (l : List Nat) : AV := .str l
def nn (n : Nat) : AV := .int .i64 (Int.ofNat n)
def sl1 (h es : Nat) : AV := .sl h 0 1 es (some 1)
def evA (room type sender : List Nat) (st : Bool) (key : List Nat) (c : List AV) (prev auth : AV) (depth ts : Nat) : AV := .agg ([.str room, .str type, .str sender, .bool st, .str key] ++ c ++ [prev, auth, nn depth, nn ts, .str [], .nils])
def txtA (s : List Nat) : List AV := [nn 3, nn 0, .str s, .nils, .nils]
def mapA : List AV := [nn 5, nn 0, .str [], sl1 0 1, sl1 1 5]
def tCreate : List Nat := [109, 46, 114, 111, 111, 109, 46, 99, 114, 101, 97, 116, 101]
def tMember : List Nat := [109, 46, 114, 111, 111, 109, 46, 109, 101, 109, 98, 101, 114]
def tMessage : List Nat := [109, 46, 114, 111, 111, 109, 46, 109, 101, 115, 115, 97, 103, 101]
def roomN : List Nat := [33, 114, 58, 115, 49]
def usA : List Nat := [64, 97, 58, 115, 49]
def usB2 : List Nat := [64, 98, 58, 115, 50]
def nmE : List Nat := [36, 65, 65, 65, 65, 65, 65, 65, 65, 65, 65, 69]
def nmI : List Nat := [36, 65, 65, 65, 65, 65, 65, 65, 65, 65, 65, 73]
def wCreator : List Nat := [99, 114, 101, 97, 116, 111, 114]
def wMembership : List Nat := [109, 101, 109, 98, 101, 114, 115, 104, 105, 112]
def wJoin : List Nat := [106, 111, 105, 110]
/-- The room's beginning; its maker joins; one who is not there speaks. -/
def evC : AV := evA roomN tCreate usA true [] mapA .nils .nils 0 0
def cellsC : List (List AV) := [[.str wCreator], txtA usA]
def evJ : AV := evA roomN tMember usA true usA mapA (sl1 2 1) (sl1 3 1) 1 0
def cellsJ : List (List AV) := [[.str wMembership], txtA wJoin, [.str nmE], [.str nmE]]
def evM : AV := evA roomN tMessage usB2 false [] [nn 5, nn 0, .str [], .nils, .nils] (sl1 0 1) (sl1 1 1) 2 0
def cellsM : List (List AV) := [[.str nmI], [.str nmE]]
def shC : Ent := ⟨[evC], cellsC, nn 0⟩
def shJ : Ent := ⟨[evJ], cellsJ, nn 0⟩
def shM : Ent := ⟨[evM], cellsM, nn 0⟩
end
end Go.Proofs.YtifcganfcjildaaGreatDoor.E

/- An event's shape, run. -/
namespace Go.Proofs.YtifcganfcjildaaGreatDoor.E
open Go Go.RowKit
set_option linter.unusedVariables false
set_option linter.unusedSimpArgs false
set_option linter.unnecessarySimpa false
theorem run_shC : pureB X0 1000000 85 shC = true := by kernel_rfl
theorem ok_shC : PureOk Tryz.prog 85 shC := pure_of_run X0_ok mixed_X run_shC
end Go.Proofs.YtifcganfcjildaaGreatDoor.E

/- An event's shape, run. -/
namespace Go.Proofs.YtifcganfcjildaaGreatDoor.E
open Go Go.RowKit
set_option linter.unusedVariables false
set_option linter.unusedSimpArgs false
set_option linter.unnecessarySimpa false
theorem run_shJ : pureB X0 1000000 85 shJ = true := by kernel_rfl
theorem ok_shJ : PureOk Tryz.prog 85 shJ := pure_of_run X0_ok mixed_X run_shJ
end Go.Proofs.YtifcganfcjildaaGreatDoor.E

/- An event's shape, run. -/
namespace Go.Proofs.YtifcganfcjildaaGreatDoor.E
open Go Go.RowKit
set_option linter.unusedVariables false
set_option linter.unusedSimpArgs false
set_option linter.unnecessarySimpa false
theorem run_shM : pureB X0 1000000 85 shM = true := by kernel_rfl
theorem ok_shM : PureOk Tryz.prog 85 shM := pure_of_run X0_ok mixed_X run_shM
end Go.Proofs.YtifcganfcjildaaGreatDoor.E

/- The machine over names, with what is known of events' shapes. -/
namespace Go.Proofs.YtifcganfcjildaaGreatDoor.E
open Go Go.RowKit
set_option linter.unusedVariables false
set_option linter.unusedSimpArgs false
set_option linter.unnecessarySimpa false
noncomputable section
def tblSh : List Ent := [shC, shJ, shM]
def sumX (g : FuncId) : Option (List AV → Fr AV) := match Nat.beq g 85 with
  | true => some (memoA tblSh)
  | false => none
def X1 : Ctx := ⟨Tryz.prog, extX, sumX⟩
theorem tblSh_ok : ∀ e ∈ tblSh, PureOk Tryz.prog 85 e := by
  intro e he
  unfold tblSh at he
  simp only [List.mem_cons, List.not_mem_nil, or_false] at he
  rcases he with rfl | rfl | rfl
  · exact ok_shC
  · exact ok_shJ
  · exact ok_shM
theorem X1_ok (n0 : Nat) (w0 : World) : XOk X1 n0 w0 := ⟨num_X, fun g e h args v s s' hr lm φ w L hR hm hl => ext_X h args v s s' hr n0 w0 lm φ w L hR hm hl, fun g e h args v s s' hr lm φ w L hR hm hl c cs => by
  have h' : sumX g = some e := h
  unfold sumX at h'
  split at h'
  · next hb =>
    have := Nat.eq_of_beq_eq_true hb
    subst this
    obtain rfl := Option.some.inj h'
    exact memoA_sound tblSh_ok hr hR hl c cs
  · cases h'⟩
end
end Go.Proofs.YtifcganfcjildaaGreatDoor.E

