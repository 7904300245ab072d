/- HandAcl1: a text of this claim's proof, as printed or written, without what the claim does not use. -/
import Derived.WalkKit
import Derived.WalkSpells
import Derived.Deep.LoopGhost
import Derived.Lib.Hide
import Derived.Lib.SplitLaws
import Derived.Laws.EntriesVeiled
import Derived.BigQuiet
import Derived.Deep.QuietTactic
import Derived.Test.YtcklgalgljmljaaDoorShelf
import Derived.Test.YtcklgalgljmljaaDoorTabs
import Derived.Test.YtcklgalgljmljaaDoorQx0
import Derived.Test.YtcklgalgljmljaaDoorTabs
namespace Go.Proofs.YtcklgalgljmljaaDoor.Q
open Go.RowKit Go.Shelf Go.Proofs.YtcklgalgljmljaaDoorW.PrintWords Go.Proofs.YtcklgalgljmljaaDoorW.PrintLast
def idxP (p : ByteArray → Bool) : List ByteArray → Int → Int
  | [], _ => -1
  | a :: l, i => if p a then i else idxP p l (i + 1)
theorem idxP_any (p : ByteArray → Bool) (l : List ByteArray) : ∀ i, 0 ≤ i → decide (0 ≤ idxP p l i) = l.any p := by
  induction l with
  | nil => intro i hi; rfl
  | cons a l ih =>
    intro i hi
    cases h : p a with
    | true => simp [idxP, h]; omega
    | false => simp only [idxP, h, List.any_cons, Bool.false_or]; exact ih (i + 1) (by omega)
set_option maxRecDepth 100000 in
set_option maxHeartbeats 2000000 in
theorem indexFunc_str (g : Nat) (lb : Array Value) (eg : ∀ args w, (callFunc g args).run Tryd.prog w = .ok (.enter g args) w) (p : ByteArray → Bool) (l : List ByteArray) (hl : l.length ≤ 9223372036854775806) (A : Option Addr) (c : Nat) (w : World) (hr : Kd.C Kd.string w A l.length l)
    (hp : ∀ (W : World) (x : ByteArray), x ∈ l → Below w.heap.size w W → Calls Tryd.prog g (#[.string x] ++ lb) W fun e w' => e = .returned (.bool (p x)) ∧ Below W.heap.size W w') :
    Calls Tryd.prog 49 #[.slice A l.length c, .func (.func g) #[] lb] w fun e w' => e = .returned (.int .i64 (idxP p l 0)) ∧ Below w.heap.size w w' := by
  have HR := Lib.hid hr; have HP := Lib.hid hp
  clear hr hp
  go_enter Tryd.func49, Tryd.ntmps49
  go_wp2
  go_loopw [8] (fun i wr => ∃ k : Nat, k ≤ l.length ∧ i = .int .i64 k ∧ Hid (idxP p (l.drop k) k = idxP p l 0) ∧ Below w.heap.size w wr) (fun i _ => l.length - (intOf i).toNat)
  case atStart => exact ⟨0, Nat.zero_le _, rfl, by simp [Hid], Below.refl _ _⟩
  case round =>
    obtain ⟨k, hk, rfl, HI, hB⟩ := hrel
    by_cases hlt : k < l.length
    · obtain ⟨ad, rfl, hc0⟩ := Kd.at_string (Kd.C_below HR.out hB) (k : Int) (by omega) (by omega)
      have hrd : rdOf ByteArray.empty l (k : Int) = l[k] := by simp [rdOf, hlt]
      rw [hrd, Int.toNat_natCast] at hc0
      have hcS := HP.out wr l[k] (List.getElem_mem hlt) hB
      have hI : idxP p (l.drop k) k = if p l[k] then (k : Int) else idxP p (l.drop (k + 1)) ((k + 1 : Nat) : Int) := by
        rw [List.drop_eq_getElem_cons hlt]; simp only [idxP]; rfl
      rw [HI.out] at hI
      clear HI hrd
      generalize l[k] = x at *
      have HcS := Lib.hid hcS; clear hcS
      have i1 : (k : Int) < (l.length : Int) := by omega
      cases hx : p x with
      | true =>
        rw [hx] at HcS hI
        have HI := Lib.hid hI; clear hI
        go_wp2_with (go_at_fn g; refine HcS.out.mono ?_; rintro e W' ⟨rfl, hbc⟩)
        go_ret
        exact ⟨by rw [HI.out]; rfl, hB.trans (hbc.mono hB.size)⟩
      | false =>
        rw [hx] at HcS hI
        have HI := Lib.hid hI; clear hI
        go_wp2_with (go_at_fn g; refine HcS.out.mono ?_; rintro e W' ⟨rfl, hbc⟩)
        go_roundw
        case rel => exact ⟨k + 1, by omega, by simp, by rw [HI.out]; rfl, hB.trans (hbc.mono hB.size)⟩
        case measure => simp [intOf]; omega
    · obtain rfl : k = l.length := by omega
      have hx : idxP p l 0 = -1 := by rw [← HI.out, List.drop_length]; rfl
      have HX := Lib.hid hx; clear hx HI
      go_wp2
      go_ret
      exact ⟨by rw [HX.out]; rfl, hB⟩
set_option maxRecDepth 100000 in
set_option maxHeartbeats 2000000 in
theorem containsFunc_str (g : Nat) (lb : Array Value) (eg : ∀ args w, (callFunc g args).run Tryd.prog w = .ok (.enter g args) w) (p : ByteArray → Bool) (l : List ByteArray) (hl : l.length ≤ 9223372036854775806) (A : Option Addr) (c : Nat) (w : World) (hr : Kd.C Kd.string w A l.length l)
    (hp : ∀ (W : World) (x : ByteArray), x ∈ l → Below w.heap.size w W → Calls Tryd.prog g (#[.string x] ++ lb) W fun e w' => e = .returned (.bool (p x)) ∧ Below W.heap.size W w') :
    Calls Tryd.prog 41 #[.slice A l.length c, .func (.func g) #[] lb] w fun e w' => e = .returned (.bool (l.any p)) ∧ Below w.heap.size w w' := by
  have hI := indexFunc_str g lb eg p l hl A c w hr hp
  have HI := Lib.hid hI
  have HA := Lib.hid (idxP_any p l 0 (Int.le_refl _))
  clear hI hr hp
  generalize idxP p l 0 = i at *
  go_enter Tryd.func41, Tryd.ntmps41
  go_wp2_with fail
  refine HI.out.mono ?_
  rintro e w2 ⟨rfl, hb⟩
  go_wp2
  go_ret
  exact ⟨by rw [← HA.out]; rfl, hb⟩
def noDigit (r : Nat) : Bool := decide (r < 48) || decide (57 < r)
theorem digits_calls (r : Nat) (hr : r ≤ 1114111) (w : World) : Calls Tryd.prog 38 #[.int .i32 r] w fun e w' => e = .returned (.bool (noDigit r)) ∧ Below w.heap.size w w' := by
  by_cases h1 : r < 48
  · have d1 : decide ((r : Int) < 48) = true := decide_eq_true (by omega)
    have hN : noDigit r = true := by simp [noDigit, h1]
    have HN := Lib.hid hN; clear hN
    go_enter Tryd.func38, Tryd.ntmps38
    go_wp2
    go_ret
    exact ⟨by rw [HN.out]; rfl, Below.refl _ _⟩
  · have d1 : decide ((r : Int) < 48) = false := decide_eq_false (by omega)
    have hN : noDigit r = decide ((57 : Int) < r) := by simp [noDigit, h1]; omega
    have HN := Lib.hid hN; clear hN
    go_enter Tryd.func38, Tryd.ntmps38
    go_wp2
    go_ret
    exact ⟨by rw [HN.out]; rfl, Below.refl _ _⟩
theorem digits_enters : ∀ args w, (callFunc 38 args).run Tryd.prog w = .ok (.enter 38 args) w := enters_of Tryd.func38 (by kernel_rfl) rfl
theorem wrong_enters : ∀ args w, (callFunc 39 args).run Tryd.prog w = .ok (.enter 39 args) w := enters_of Tryd.func39 (by kernel_rfl) rfl
def wrongP (s : ByteArray) : Bool := s.toList.isEmpty || decide ((3 : Int) < s.size) || decide (0 ≤ Lib.idxFunc noDigit true s)
set_option maxRecDepth 100000 in
set_option maxHeartbeats 2000000 in
theorem wrong_calls (s : ByteArray) (g : Nat) (w : World) (hg : w.cell? ⟨g, 0, none⟩ = some (.func (.func 38) #[] #[])) : Calls Tryd.prog 39 #[.string s, .pointer (some ⟨g, 0, none⟩)] w fun e w' => e = .returned (.bool (wrongP s)) ∧ Below w.heap.size w w' := by
  have hI := Tryd.strings_IndexFunc_grows 38 #[] digits_enters noDigit s w (fun W x hx _ => digits_calls x hx W)
  have HI := Lib.hid hI; clear hI
  have hW : wrongP s = (s.toList.isEmpty || decide ((3 : Int) < s.size) || decide (0 ≤ Lib.idxFunc noDigit true s)) := rfl
  generalize Lib.idxFunc noDigit true s = i at *
  cases h1 : s.toList.isEmpty with
  | true =>
    rw [h1] at hW
    have HW := Lib.hid hW; clear hW
    go_enter Tryd.func39, Tryd.ntmps39
    go_wp2
    go_ret
    exact ⟨by rw [HW.out]; rfl, Below.refl _ _⟩
  | false =>
    cases h2 : decide ((3 : Int) < s.size) with
    | true =>
      rw [h1, h2] at hW
      have HW := Lib.hid hW; clear hW
      go_enter Tryd.func39, Tryd.ntmps39
      go_wp2
      go_ret
      exact ⟨by rw [HW.out]; rfl, Below.refl _ _⟩
    | false =>
      rw [h1, h2] at hW
      have HW := Lib.hid hW; clear hW
      go_enter Tryd.func39, Tryd.ntmps39
      go_wp2_with fail
      refine HI.out.mono ?_
      rintro e w2 ⟨rfl, hb⟩
      go_wp2
      go_ret
      exact ⟨by rw [HW.out]; rfl, hb⟩
def aclParts (s : ByteArray) : List ByteArray := Lib.splitB ⟨#[46]⟩ 0 (Lib.countB s ⟨#[46]⟩) s
def aclLiteral (s : ByteArray) : Bool := decide ((aclParts s).length = 4) && !(aclParts s).any wrongP
set_option maxRecDepth 100000 in
set_option maxHeartbeats 4000000 in
theorem literal_calls (s : ByteArray) (hs : s.size < 4294967281) (w : World) (hT : Tabs w) : Calls Tryd.prog 20 #[.string s] w fun e w' => e = .returned (.bool (aclLiteral s)) ∧ Below w.heap.size w w' := by
  obtain ⟨hT1, m, hm⟩ := hT
  have hS := Tryd.strings_Split s ⟨#[46]⟩ m w hs hm (by decide)
  have hlen : (aclParts s).length = Lib.countB s ⟨#[46]⟩ + 1 := Lib.splitB_all _ (by decide) 0 _ s rfl
  have hS' : Calls Tryd.prog 37 #[.string s, .string ⟨#[46]⟩] w fun e w' => e = .returned (.slice (some ⟨w.heap.size, 0, none⟩) (aclParts s).length (aclParts s).length) ∧ w' = w.alloc (.cells ((aclParts s).map Value.string).toArray 9) := by
    rw [hlen]; exact hS
  have HS := Lib.hid hS'
  have HM := Lib.hid hm; have HL := Lib.hid hlen
  have hcnt : Lib.countB s ⟨#[46]⟩ ≤ s.size := Lib.countB_le _ (by decide) s.size s (Nat.le_refl _)
  have hle : (aclParts s).length ≤ 9223372036854775806 := by omega
  have hQ0 : aclLiteral s = (decide ((aclParts s).length = 4) && !(aclParts s).any wrongP) := rfl
  have HQ := Lib.hid hQ0
  clear hQ0 hS hS' hm hlen hT1 hcnt
  generalize aclParts s = l at *
  go_enter Tryd.func20, Tryd.ntmps20
  go_wp2_with fail
  refine HS.out.mono ?_
  rintro e w2 ⟨rfl, rfl⟩
  by_cases h4 : l.length = 4
  · have d4 : ((l.length : Int) == 4) = true := by simp; omega
    have hCC : Kd.C Kd.string ((w.alloc (.cells (l.map Value.string).toArray 9)).alloc (.cells #[.func (.func 38) #[] #[]] 57)) (some ⟨w.heap.size, 0, none⟩) l.length l := by
      refine Kd.C_alloc ?_ _
      refine Kd.C_of_reads (d := ByteArray.empty) ⟨rfl, by omega, fun h0 => ⟨_, rfl, fun j hj => ?_⟩⟩
      rw [show (⟨w.heap.size, 0, none⟩ : Addr).add j = ⟨w.heap.size, j, none⟩ by simp [Addr.add] <;> omega, World.cell?_alloc_at _ _ _ _ rfl]
      simp [hj]
    have hB : Below w.heap.size w ((w.alloc (.cells (l.map Value.string).toArray 9)).alloc (.cells #[.func (.func 38) #[] #[]] 57)) := ((Below.refl _ _).alloc (Nat.le_refl _) _).alloc (by simp) _
    have hK : ((w.alloc (.cells (l.map Value.string).toArray 9)).alloc (.cells #[.func (.func 38) #[] #[]] 57)).cell? ⟨w.heap.size + 1, 0, none⟩ = some (.func (.func 38) #[] #[]) := by
      rw [World.cell?_alloc_at _ _ _ _ (by simp)]; rfl
    have hC := containsFunc_str 39 #[.pointer (some ⟨w.heap.size + 1, 0, none⟩)] wrong_enters wrongP l hle _ l.length _ hCC (fun W x _ hb => wrong_calls x (w.heap.size + 1) W (pw_cell_below hb hK))
    have hQ : aclLiteral s = !l.any wrongP := by rw [HQ.out]; simp [h4]
    have HQ' := Lib.hid hQ; clear hQ HQ
    rw [h4] at hC
    have HC := Lib.hid hC; clear hC hK hCC
    have HB := Lib.hid hB; clear hB
    go_wp2_with fail
    refine HC.out.mono ?_
    rintro e w3 ⟨rfl, hb⟩
    go_wp2
    go_ret
    exact ⟨by rw [HQ'.out]; rfl, HB.out.trans (hb.mono HB.out.size)⟩
  · have d4 : ((l.length : Int) == 4) = false := by simp; omega
    have hQ : aclLiteral s = false := by rw [HQ.out]; simp [h4]
    have HQ' := Lib.hid hQ; clear hQ HQ
    have hB : Below w.heap.size w ((w.alloc (.cells (l.map Value.string).toArray 9)).alloc (.cells #[.func (.func 38) #[] #[]] 57)) := ((Below.refl _ _).alloc (Nat.le_refl _) _).alloc (by simp) _
    have HB := Lib.hid hB; clear hB
    go_wp2
    go_ret
    exact ⟨by rw [HQ'.out]; rfl, HB.out⟩
end Go.Proofs.YtcklgalgljmljaaDoor.Q
