/- HandAcl2: a text of this claim's proof, as printed or written, without what the claim does not use. -/
import Derived.WalkKit
import Derived.WalkSpells
import Derived.Deep.LoopGhost
import Derived.Lib.Hide
import Derived.Laws.EntriesVeiled
import Derived.BigQuiet
import Derived.Deep.QuietTactic
import Derived.Test.YtcklgalgljmljaaDoorShelf
import Derived.Test.YtcklgalgljmljaaDoorTabs
import Derived.Test.YtcklgalgljmljaaDoorHandAcl0
import Derived.Test.YtcklgalgljmljaaDoorHandAcl1
namespace Go.Proofs.YtcklgalgljmljaaDoor.Q
open Go.RowKit Go.Shelf Go.Proofs.YtcklgalgljmljaaDoorW.PrintWords Go.Proofs.YtcklgalgljmljaaDoorW.PrintLast
def aclSkips (x : JS) (n : Nat) : Bool := decide (x.f0 ≠ 3) || decide (256 < x.f2.size) || decide (n = 100)
def aclScan (hf : ByteArray → Option Bool) : List JS → Nat → Option Bool
  | [], _ => some false
  | x :: l, n => if aclSkips x n then aclScan hf l n else (hf x.f2).bind fun t => if t then some true else aclScan hf l (n + 1)
def aclOne (hf : ByteArray → Option Bool) (o : Option JS) : Option Bool :=
  match o with
  | none => some false
  | some v => if v.f0 = 4 then aclScan hf v.f4 0 else some false
set_option maxRecDepth 100000 in
set_option maxHeartbeats 4000000 in
theorem one_calls (g : Nat) (lb : Array Value) (eg : ∀ args w, (callFunc g args).run Tryd.prog w = .ok (.enter g args) w) (hf : ByteArray → Option Bool)
    (kind n : Int) (t : ByteArray) (A : Option Addr) (c : Nat) (keys : List ByteArray) (B : Option Addr) (d : Nat) (list : List JS) (key : ByteArray) (r : Bool) (w : World)
    (hl : keys.length ≤ 9223372036854775806) (hC : Kd.C Kd.string w A keys.length keys) (hc : keys.length ≤ c) (hD : Kd.C k25 w B list.length list) (hd : list.length ≤ d)
    (hp : ∀ (W : World) (x : ByteArray) (b : Bool), hf x = some b → Below w.heap.size w W → Calls Tryd.prog g (#[.string x] ++ lb) W fun e w' => e = .returned (.bool b) ∧ Below W.heap.size W w')
    (h : aclOne hf (aclValue kind keys list key) = some r) :
    Calls Tryd.prog 21 #[jsv kind n t A keys.length c B list.length d, .string key, .func (.func g) #[] lb] w fun e w' => e = .returned (.bool r) ∧ Below w.heap.size w w' := by
  have hV := value_calls kind n t A c keys B d list key (w.alloc (.cells #[.int .i64 kind, .int .i64 n, .string t, .slice A keys.length c, .slice B list.length d] 25)) hl (Kd.C_alloc hC _) hc (Kd.C_alloc hD _) hd
  unfold jsv at *
  have HV := Lib.hid hV; have HP := Lib.hid hp
  clear hV hC hD hc hd hp
  generalize aclValue kind keys list key = o at *
  have H := Lib.hid h; clear h
  have hB0 : Below w.heap.size w (w.alloc (.cells #[.int .i64 kind, .int .i64 n, .string t, .slice A keys.length c, .slice B list.length d] 25)) := (Below.refl _ _).alloc (Nat.le_refl _) _
  have HB0 := Lib.hid hB0; clear hB0
  go_enter Tryd.func21, Tryd.ntmps21
  go_wp2_with fail
  refine HV.out.mono ?_
  rintro e w2 ⟨hb, hv⟩
  have hB2 := HB0.out.trans (hb.mono HB0.out.size)
  have HB2 := Lib.hid hB2; clear hB2 HB0
  cases o with
  | none =>
    simp only [valEnds, jsv] at hv
    subst hv
    have hr : r = false := by have := H.out; simpa [aclOne, eq_comm] using this
    subst hr
    clear H HV
    have hx : Below w.heap.size w (w2.alloc (.cells #[.int .i64 0, .int .i64 0, .string ByteArray.empty, .slice none 0 0, .slice none 0 0] 25)) := HB2.out.alloc HB2.out.size _
    have HX := Lib.hid hx; clear hx
    go_wp2
    go_ret
    exact ⟨rfl, HX.out⟩
  | some v =>
    simp only [valEnds, jsv] at hv
    obtain ⟨A', c', B', d', rfl, L3, C3, L4, C4⟩ := hv
    have hC4 := Kd.C_below C4 hb
    have HC4 := Lib.hid hC4
    clear C3 C4 L3 hC4
    have hh : (if v.f0 = 4 then aclScan hf v.f4 0 else some false) = some r := H.out
    clear H HV
    have hx : Below w.heap.size w (w2.alloc (.cells #[.int .i64 v.f0, .int .i64 v.f1, .string v.f2, .slice A' v.f3.length c', .slice B' v.f4.length d'] 25)) := HB2.out.alloc HB2.out.size _
    have HX := Lib.hid hx; clear hx
    by_cases h4 : v.f0 = 4
    · rw [if_pos h4] at hh
      have HH := Lib.hid hh; clear hh
      have b4 : (v.f0 != 4) = false := by simp [h4]
      clear h4
      have hle : v.f4.length ≤ 9223372036854775807 := HC4.out.2.1
      go_wp2
      go_loopw [9, 24] (fun vn vi wr => ∃ m k : Nat, m ≤ k ∧ k ≤ v.f4.length ∧ vn = .int .i64 m ∧ vi = .int .i64 k ∧ Hid (aclScan hf (v.f4.drop k) m = some r) ∧ Below w.heap.size w wr ∧ Hid (Below w2.heap.size w2 wr)) (fun _ vi _ => v.f4.length - (intOf vi).toNat)
      case atStart => exact ⟨0, 0, Nat.le_refl _, Nat.zero_le _, rfl, rfl, by simpa using HH, HX.out, (Below.refl _ _).alloc (Nat.le_refl _) _⟩
      case round =>
        obtain ⟨m, k, hmk, hk, rfl, rfl, HI, hB, HW⟩ := hrel
        by_cases hlt : k < v.f4.length
        · have hT := at_T25 (Kd.C_below HC4.out HW.out) (k : Int) (by omega) (by omega)
          obtain ⟨ad, A5, c5, A6, c6, rfl, g0, g1, g2, g3, g4, _, _, _, _⟩ := hT
          have hrd : rd_T25 v.f4 (k : Int) = v.f4[k] := by simp [rd_T25, hlt]
          have hI0 : aclScan hf (v.f4.drop k) m = if aclSkips v.f4[k] m then aclScan hf (v.f4.drop (k + 1)) m else (hf v.f4[k].f2).bind fun t => if t then some true else aclScan hf (v.f4.drop (k + 1)) (m + 1) := by
            rw [List.drop_eq_getElem_cons hlt]; rfl
          rw [hrd] at g0 g1 g2 g3 g4
          rw [Int.toNat_natCast] at g0 g1 g2 g3 g4
          have HI0 := Lib.hid (hI0.symm.trans HI.out)
          clear HI hI0 hrd
          generalize v.f4[k] = x at *
          have i1 : (k : Int) < (v.f4.length : Int) := by omega
          have HB := Lib.hid (hB.alloc hB.size (.cells #[.int .i64 x.f0, .int .i64 x.f1, .string x.f2, .slice A5 x.f3.length c5, .slice A6 x.f4.length c6] 25))
          have HW2 := Lib.hid (HW.out.alloc HW.out.size (.cells #[.int .i64 x.f0, .int .i64 x.f1, .string x.f2, .slice A5 x.f3.length c5, .slice A6 x.f4.length c6] 25))
          by_cases e3 : x.f0 = 3
          · by_cases e2 : 256 < x.f2.size
            · have hS : aclSkips x m = true := by simp [aclSkips, e2]
              have hI := HI0.out; rw [if_pos hS] at hI
              have HI := Lib.hid hI; clear hI HI0 hS
              have b3 : (x.f0 != 3) = false := by simp [e3]
              have b2 : decide ((256 : Int) < (x.f2.size : Int)) = true := decide_eq_true (by omega)
              clear e3 e2
              go_wp2
              go_roundw
              case rel => exact ⟨m, k + 1, by omega, by omega, rfl, by simp, HI.out, HB.out, HW2.out⟩
              case measure => simp [intOf]; omega
            · by_cases e1 : m = 100
              · have hS : aclSkips x m = true := by simp [aclSkips, e1]
                have hI := HI0.out; rw [if_pos hS] at hI
                have HI := Lib.hid hI; clear hI HI0 hS
                have b3 : (x.f0 != 3) = false := by simp [e3]
                have b2 : decide ((256 : Int) < (x.f2.size : Int)) = false := decide_eq_false (by omega)
                have b1 : ((m : Int) == 100) = true := by simp; omega
                clear e3 e2
                go_wp2
                go_roundw
                case rel => exact ⟨m, k + 1, by omega, by omega, rfl, by simp, HI.out, HB.out, HW2.out⟩
                case measure => simp [intOf]; omega
              · have hS : ¬ aclSkips x m = true := by simp [aclSkips, e1, e3]; omega
                have hI := HI0.out; rw [if_neg hS] at hI
                have b3 : (x.f0 != 3) = false := by simp [e3]
                have b2 : decide ((256 : Int) < (x.f2.size : Int)) = false := decide_eq_false (by omega)
                have b1 : ((m : Int) == 100) = false := by simp; omega
                clear e3 e2 e1 HI0 hS
                cases hx : hf x.f2 with
                | none => rw [hx] at hI; cases hI
                | some b =>
                  rw [hx] at hI
                  have hcS := HP.out _ x.f2 b hx HB.out
                  have HcS := Lib.hid hcS; clear hcS hx
                  cases b with
                  | true =>
                    obtain rfl : true = r := Option.some.inj hI
                    clear hI
                    go_wp2_with (go_at_fn g; refine HcS.out.mono ?_; rintro e W' ⟨rfl, hbc⟩)
                    go_ret
                    exact ⟨rfl, HB.out.trans (hbc.mono HB.out.size)⟩
                  | false =>
                    have HI := Lib.hid hI; clear hI
                    go_wp2_with (go_at_fn g; refine HcS.out.mono ?_; rintro e W' ⟨rfl, hbc⟩)
                    go_roundw
                    case rel => exact ⟨m + 1, k + 1, by omega, by omega, by simp, by simp, HI.out, HB.out.trans (hbc.mono HB.out.size), HW2.out.trans (hbc.mono HW2.out.size)⟩
                    case measure => simp [intOf]; omega
          · have hS : aclSkips x m = true := by simp [aclSkips, e3]
            have hI := HI0.out; rw [if_pos hS] at hI
            have HI := Lib.hid hI; clear hI HI0 hS
            have b3 : (x.f0 != 3) = true := by simp [e3]
            clear e3
            go_wp2
            go_roundw
            case rel => exact ⟨m, k + 1, by omega, by omega, rfl, by simp, HI.out, HB.out, HW2.out⟩
            case measure => simp [intOf]; omega
        · obtain rfl : k = v.f4.length := by omega
          have hr : false = r := by have := HI.out; rw [List.drop_length] at this; exact Option.some.inj this
          subst hr
          clear HI
          go_wp2
          go_ret
          exact ⟨rfl, hB⟩
    · rw [if_neg h4] at hh
      obtain rfl : false = r := Option.some.inj hh
      clear hh
      have b4 : (v.f0 != 4) = true := by simp [h4]
      clear h4
      go_wp2
      go_ret
      exact ⟨rfl, HX.out⟩
end Go.Proofs.YtcklgalgljmljaaDoor.Q
