/- Merged out of: E48, E49. -/
import Derived.Test.YtifcganfcjildaaGreatDoorE47
import Derived.Laws.Externs
/- Calls, by a run of the machine over names. -/
namespace Go.Proofs.YtifcganfcjildaaGreatDoor.E
open Go Go.RowKit
set_option linter.unusedVariables false
set_option linter.unusedSimpArgs false
set_option linter.unnecessarySimpa false
noncomputable section

/-- Cells that nobody writes, under the names 0, 1, .. -/
def stillT : List (List AV) → Nat → Tr AO → Option (Tr AO)
  | [], _, T => some T
  | c :: l, i, T => match T.put i (some (.still c)) with
    | none => none
    | some T' => stillT l (i + 1) T'
theorem stillT_get : ∀ {l : List (List AV)} {i : Nat} {T t : Tr AO}, stillT l i T = some t → ∀ j, t.get j = if i ≤ j ∧ j < i + l.length then (l[j - i]?).map .still else T.get j
  | [], i, T, t, h, j => by
    obtain rfl := Option.some.inj h
    rw [if_neg (by simp)]
  | c :: l, i, T, t, h, j => by
    unfold stillT at h
    split at h
    · cases h
    · next T' hT =>
      rw [stillT_get h j, Tr.get_put hT]
      by_cases e : j = i
      · subst e
        rw [if_neg (by omega), if_pos rfl, if_pos (by simp)]
        simp
      · rw [if_neg e]
        by_cases c1 : i + 1 ≤ j ∧ j < i + 1 + l.length
        · rw [if_pos c1, if_pos (by simp; omega)]
          have : j - i = (j - (i + 1)) + 1 := by omega
          rw [this, List.getElem?_cons_succ]
        · rw [if_neg c1, if_neg (by simp; omega)]
def valOf (r : Option (Rs × HS)) : Option AV := match r with
  | some (.val v, _) => some v
  | _ => none
def resLike (res : AV) (o : Option AV) : Bool := match o with
  | some v => like (fun _ => none) res v
  | none => false
/-- Is what is said of a call what a run tells? -/
def pureB (X : Ctx) (n : Nat) (g : FuncId) (e : Ent) : Bool := match stillT e.cells 0 .nil with
  | none => false
  | some t => resLike e.res (valOf ((callF X (runA X n) g e.args).run ⟨t, e.cells.length, 0, 0⟩))
theorem pure_of_run {X : Ctx} (hX : ∀ n0 w0, XOk X n0 w0) (hmix : X.P.follows .mixedOrders = true) {n : Nat} {g : FuncId} {e : Ent} (h : pureB X n g e = true) : PureOk X.P g e := by
  unfold pureB at h
  cases hs : stillT e.cells 0 .nil with
  | none => rw [hs] at h; cases h
  | some t =>
    rw [hs] at h
    dsimp only at h
    cases hv : valOf ((callF X (runA X n) g e.args).run ⟨t, e.cells.length, 0, 0⟩) with
    | none => rw [hv] at h; cases h
    | some v =>
      rw [hv] at h
      have hlk : like (fun _ => none) e.res v = true := h
      cases hr : (callF X (runA X n) g e.args).run ⟨t, e.cells.length, 0, 0⟩ with
      | none => rw [hr] at hv; cases hv
      | some p =>
        obtain ⟨rs, s1⟩ := p
        rw [hr] at hv
        cases rs with
        | pan _ => cases hv
        | val u =>
          obtain rfl := Option.some.inj hv
          intro φ w L hL hdom hcells c k
          have hget : ∀ j, t.get j = if j < e.cells.length then (e.cells[j]?).map .still else none := fun j => by
            rw [stillT_get hs j]
            by_cases c1 : j < e.cells.length
            · rw [if_pos (by omega), if_pos c1]; rfl
            · rw [if_neg (by omega), if_neg c1]; rfl
          have hat : ∀ j, j < e.cells.length → ∃ cs p C ty, t.get j = some (.still cs) ∧ HasCells φ w j cs p C ty := fun j hj => by
            obtain ⟨p, C, ty, hc⟩ := hcells j e.cells[j] (List.getElem?_eq_getElem hj)
            exact ⟨_, p, C, ty, by rw [hget, if_pos hj, List.getElem?_eq_getElem hj]; rfl, hc⟩
          have hlt : ∀ {j : Nat} {p : Pl}, φ j = some p → p.b < w.heap.size := fun {j p} hp => by
            obtain ⟨cs, q, C, ty, _, hc⟩ := hat j (hdom j p hp)
            obtain rfl := Option.some.inj (hp.symm.trans hc.at_)
            exact (Array.getElem?_eq_some_iff.1 hc.blk).1
          have hnone : ∀ j, e.cells.length ≤ j → t.get j = none := fun j hj => by rw [hget, if_neg (by omega)]
          have hR : Rel w.heap.size w s1.next φ ⟨t, e.cells.length, 0, 0⟩ w := by
            refine ⟨Below.refl _ _, fun j a _ => hnone j a, fun j o ho _ => ?_, fun j k o o' p p' a b oa _ _ _ _ => ?_, fun j p hp => ⟨?_, hlt hp⟩, Nat.le_refl _⟩
            · have hj : j < e.cells.length := by
                rcases Nat.lt_or_ge j e.cells.length with h9 | h9
                · exact h9
                · have : t.get j = some o := ho
                  rw [hnone j h9] at this; cases this
              obtain ⟨cs, p, C, ty, h1, hc⟩ := hat j hj
              have : t.get j = some o := ho
              rw [h1] at this
              obtain rfl := Option.some.inj this
              exact ⟨p, _, hc.at_, hc.blk, .still hc.size hc.fits hc.cells hc.one, fun hh => (by cases hh), fun _ => hlt hc.at_⟩
            · have hj : j < e.cells.length := by
                rcases Nat.lt_or_ge j e.cells.length with h9 | h9
                · exact h9
                · have : t.get j = some o := a
                  rw [hnone j h9] at this; cases this
              obtain ⟨cs, p, C, ty, h1, hc⟩ := hat j hj
              have : t.get j = some o := a
              rw [h1] at this
              obtain rfl := Option.some.inj this
              cases oa
            · obtain ⟨cs, q, C, ty, h1, hc⟩ := hat j (hdom j p hp)
              show t.get j ≠ none
              rw [h1]; simp
          obtain ⟨ψ, w', k1, k2, V, k3, k4⟩ := callF_sound (hX _ _) (runA_sound (hX _ _) hmix n) hr hR (Nat.le_refl _) hL c k
          exact ⟨w', V, k2.below, like_sound (φ := ψ) hlk k3, k4⟩
/-- A call, by a run. -/
theorem calls_run {X : Ctx} {n0 : Nat} {w0 : World} {lm : Nat} {φ : Map} {s s' : HS} {w : World} (hX : XOk X n0 w0) (hmix : X.P.follows .mixedOrders = true) {n : Nat} {g : FuncId} {args : List AV} {L : Array Value} {v : AV} (hr : (callN X (runA X n) g args).run s = some (.val v, s')) (h : Rel n0 w0 lm φ s w) (hm : s'.next ≤ lm)
    (hl : VRs φ args L.toList) : Calls X.P g L w fun e w' => ∃ ψ V, e = .returned V ∧ VR ψ v V ∧ Ext s.next s'.next φ ψ ∧ Rel n0 w0 lm ψ s' w' := by
  unfold callN at hr
  split at hr
  · cases hr
  · next A hA =>
    obtain ⟨r1, s1, h1, h2⟩ := Fr.bind_run hr
    obtain ⟨hf, rfl⟩ := Fr.ret_run h2
    obtain ⟨e1, e2, e3, e4, e5⟩ := enterA_sound hA hl
    intro cs
    obtain ⟨ψ, w', m, k1, k2, k3, k4⟩ := runA_sound hX hmix n A s r1 _ h1 lm φ w _ cs cs h hm e1 (by rw [e2]; exact .no _ _) (by rw [e4]; intro hh; exact absurd rfl hh)
    cases r1 with
    | pan c u => cases hf
    | ret v' u =>
      obtain rfl := Rs.val.inj hf
      simp only [Lands, e4] at k4
      obtain ⟨fr, cs1, V, fn, rfl, hu, q1, q2, q3, q4, q5, q6, q7⟩ := k4
      rw [e2] at hu q4
      cases hu
      exact ⟨.returned V, w', fr, ⟨ψ, V, rfl, q7, k2, k3⟩, k1, q3.trans e5, q1, q2, q4, fn, q5, q6⟩
def truthB (r : Option (Rs × HS)) : Bool := match r with
  | some (.val (.bool true), _) => true
  | _ => false
/-- A call without arguments that answers true. -/
theorem calls_true {X : Ctx} (hX : ∀ n0 w0, XOk X n0 w0) (hmix : X.P.follows .mixedOrders = true) {n : Nat} {g : FuncId} (hr : truthB ((callN X (runA X n) g []).run ⟨.nil, 0, 0, 0⟩) = true) (w : World) :
    Calls X.P g #[] w fun e w' => e = .returned (.bool true) ∧ Below w.heap.size w w' := by
  cases hc : (callN X (runA X n) g []).run ⟨.nil, 0, 0, 0⟩ with
  | none => rw [hc] at hr; cases hr
  | some p =>
    obtain ⟨rs, s1⟩ := p
    rw [hc] at hr
    have hrs : rs = .val (.bool true) := by
      unfold truthB at hr
      split at hr
      · next e => exact (Prod.mk.inj (Option.some.inj e)).1
      · cases hr
    subst hrs
    have hR : Rel w.heap.size w s1.next (fun _ => none) ⟨.nil, 0, 0, 0⟩ w := ⟨Below.refl _ _, fun _ _ _ => rfl, fun j o ho _ => (by cases ho), fun j k o o' p p' a => (by cases a), fun j p hp => (by cases hp), Nat.le_refl _⟩
    refine (calls_run (hX _ _) hmix hc hR (Nat.le_refl _) (L := #[]) .nil).mono fun e w' ⟨ψ, V, h1, h2, h3, h4⟩ => ?_
    cases h2
    exact ⟨h1, h4.below⟩
end
end Go.Proofs.YtifcganfcjildaaGreatDoor.E

/- Functions without a body: the first place of a byte, a map's copy. -/
namespace Go.Proofs.YtifcganfcjildaaGreatDoor.E
open Go Go.RowKit
set_option linter.unusedVariables false
set_option linter.unusedSimpArgs false
set_option linter.unnecessarySimpa false
noncomputable section

def findB : List Nat → Nat → Nat → Int
  | [], _, _ => -1
  | a :: l, c, i => cd (Nat.beq a c) (Int.ofNat i) (findB l c (i + 1))
theorem findB_spec : ∀ (l : List Nat) (c k : Nat), (∃ i, ∃ h : i < l.length, l[i] = c ∧ (∀ j, (hj : j < i) → l[j]'(by omega) ≠ c) ∧ findB l c k = Int.ofNat (k + i)) ∨ ((∀ i, (h : i < l.length) → l[i] ≠ c) ∧ findB l c k = -1)
  | [], c, k => .inr ⟨fun i h => by simp at h, rfl⟩
  | a :: l, c, k => by
    unfold findB
    cases hb : Nat.beq a c with
    | true =>
      have := Nat.eq_of_beq_eq_true hb
      exact .inl ⟨0, by simp, by simpa using this, fun j hj => by omega, rfl⟩
    | false =>
      have hne : a ≠ c := fun e => by rw [e, Nat.beq_refl] at hb; cases hb
      rcases findB_spec l c (k + 1) with ⟨i, h, h1, h2, h3⟩ | ⟨h1, h2⟩
      · refine .inl ⟨i + 1, by simpa using h, by simpa using h1, fun j hj => ?_, ?_⟩
        · cases j with
          | zero => simpa using hne
          | succ j => simpa using h2 j (by omega)
        · show findB l c (k + 1) = _
          rw [h3]; congr 1; omega
      · refine .inr ⟨fun i h => ?_, h2⟩
        cases i with
        | zero => simpa using hne
        | succ i => simpa using h1 i (by simpa using h)
theorem firstIdx_eq (s : ByteArray) (c : Nat) (hc : c < 256) : firstIdx s c.toUInt8 = findB (s.data.toList.map (·.toNat)) c 0 := by
  have hl : (s.data.toList.map (·.toNat)).length = s.size := by simp
  have hget : ∀ (i : Nat) (h : i < s.size), (s.data.toList.map (·.toNat))[i]'(by rw [hl]; exact h) = (s[i]!).toNat := fun i h => by
    have hd : i < s.data.size := h
    rw [List.getElem_map]
    congr 1
    show s.data.toList[i] = s[i]!
    have : s[i]! = s.data[i] := by
      have h' : i < s.size := h
      simp [h']
      rfl
    rw [this]; rfl
  have hbeq : ∀ i : Nat, (s[i]! == c.toUInt8) = true ↔ (s[i]!).toNat = c := fun i => by
    rw [beq_iff_eq]
    constructor
    · intro e; rw [e]; show c % 256 = c; omega
    · intro e
      apply UInt8.toNat_inj.1
      rw [e]; show c = c % 256; omega
  unfold firstIdx
  cases hf : (List.range s.size).find? fun i => s[i]! == c.toUInt8 with
  | some i =>
    obtain ⟨h1, h2, h3⟩ := List.find?_range_eq_some.1 hf
    have hi : i < s.size := by simpa using h2
    rcases findB_spec (s.data.toList.map (·.toNat)) c 0 with ⟨k, hk, k1, k2, k3⟩ | ⟨k1, k2⟩
    · have hk' : k < s.size := by rw [← hl]; exact hk
      rw [k3]
      have e1 := (hbeq i).1 h1
      rw [hget k hk'] at k1
      have : k = i := by
        rcases Nat.lt_trichotomy k i with h | h | h
        · have := h3 k h
          rw [(hbeq k).2 k1] at this
          simp at this
        · exact h
        · exact absurd ((hget i hi).trans e1) (k2 i h)
      subst this
      simp
    · exact absurd ((hget i hi).trans ((hbeq i).1 h1)) (k1 i (by rw [hl]; exact hi))
  | none =>
    rw [List.find?_eq_none] at hf
    rcases findB_spec (s.data.toList.map (·.toNat)) c 0 with ⟨k, hk, k1, k2, k3⟩ | ⟨k1, k2⟩
    · have hk' : k < s.size := by rw [← hl]; exact hk
      rw [hget k hk'] at k1
      exact absurd ((hbeq k).2 k1) (hf k (List.mem_range.2 hk'))
    · exact k2.symm
def idxA (args : List AV) : Fr AV := match args with
  | [.str s, .int .u8 c] => cd (decide (0 ≤ c) && decide (c < 256)) (.ret (.int .i64 (findB s c.toNat 0))) .fail
  | _ => .fail
def cloneA (args : List AV) : Fr AV := match args with
  | [.iface t (.map h)] => (mapOf h).bind fun (es, c) => (Fr.new (.map es c)).bind fun n => .ret (.iface t (.map n))
  | _ => .fail
def ExtOk (P : Program) (g : FuncId) (e : List AV → Fr AV) : Prop := ∀ (args : List AV) (v : AV) (s s' : HS), (e args).run s = some (v, s') → ∀ (n0 : Nat) (w0 : World) (lm : Nat) (φ : Map) (w : World) (L : Array Value), Rel n0 w0 lm φ s w → s'.next ≤ lm → VRs φ args L.toList →
  ∃ ψ w' V, (callFunc g L).run P w = .ok (.value V) w' ∧ Ext s.next s'.next φ ψ ∧ Rel n0 w0 lm ψ s' w' ∧ VR ψ v V
section
variable {P : Program} {g : FuncId} {fn : Func} (hf : P.funcs[g]? = some fn) (hname : (fn.name == "runtime.NumGoroutine") = false) (hb : fn.body.isNone = true) (hn : Extern.findNext fn = none)
include hf hname hb hn
theorem idx_ok (he : Extern.find fn = some Extern.BytealgIndexByte.indexByte) : ExtOk P g idxA := by
  intro args v s s' hr n0 w0 lm φ w L h hm hl
  unfold idxA at hr
  split at hr
  · next l c =>
    obtain ⟨hc, hr⟩ := cond_run hr
    rw [Bool.and_eq_true, decide_eq_true_eq, decide_eq_true_eq] at hc
    obtain ⟨rfl, rfl⟩ := Fr.ret_run hr
    obtain ⟨L⟩ := L
    cases hl with
    | cons h1 ht =>
      cases ht with
      | cons h2 ht =>
        cases ht
        cases h1 with
        | @str _ bs e =>
          cases h2
          have hrun := run_callFunc_extern hf hname hb hn he #[.string bs, .int .u8 c] w
          rw [run_indexByte_string] at hrun
          refine ⟨φ, w, .int .i64 (firstIdx bs c.toNat.toUInt8), hrun, Ext.refl _ _ _, h, ?_⟩
          rw [firstIdx_eq bs c.toNat (by omega), e]
          exact .int _ _
  · cases hr
theorem clone_ok (he : Extern.find fn = some Extern.MapsClone.clone) : ExtOk P g cloneA := by
  intro args v s s' hr n0 w0 lm φ w L h hm hl
  unfold cloneA at hr
  split at hr
  · next t j =>
    obtain ⟨⟨es, c⟩, s1, h1, h2⟩ := Fr.bind_run hr
    obtain ⟨n, s2, h3, h4⟩ := Fr.bind_run h2
    obtain ⟨rfl, rfl⟩ := Fr.ret_run h4
    obtain ⟨r1, g1, g2, g3, p, E, e1, e2, e3⟩ := mapOf_sound h h1
    obtain ⟨L⟩ := L
    cases hl with
    | cons k1 kt =>
      cases kt
      cases k1 with
      | iface k2 =>
        cases k2 with
        | map hp =>
          obtain rfl := Option.some.inj (e1.symm.trans hp)
          obtain ⟨rfl, hnx, a1, a2⟩ := r1.new h3 hm (.map E c) 0 0 rfl (.map (e3.mono (r1.ext_add (by rw [← (Fr.new_run h3).2.1]; exact hm) _).le))
          have hg := run_getObj (P := P) e2 (by simp)
          have hrun := run_callFunc_extern hf hname hb hn he #[.iface t (.map (some p.b))] w
          have hcl : (Extern.MapsClone.clone #[.iface t (.map (some p.b))]).run P w = .ok (.iface t (.map (some w.heap.size))) (w.alloc (.map E c)) := by
            have e : Extern.MapsClone.clone #[.iface t (.map (some p.b))] = (getObj p.b >>= fun o => match o with
              | .map entries clock => (newObj (.map entries clock) >>= fun n => pure (.iface t (.map (some n))))
              | _ => stuck "maps.clone: a map expected") := rfl
            rw [e]
            simp [hg, run_newObj_alloc]
          rw [hcl] at hrun
          rw [g2] at a1 a2
          exact ⟨_, _, _, hrun, a1, a2, .iface (.map (p := ⟨w.heap.size, 0, 0⟩) (by simp [Map.add, g2]))⟩
  · cases hr
end
end
end Go.Proofs.YtifcganfcjildaaGreatDoor.E

