/- page.Token, page.Parse: what they answer. -/
import Derived.WalkKit
import Derived.WalkSpells
import Derived.Lib.Hide
import Derived.Lib.AppendIntMem
import Derived.Lib.AtoiErrMem
import Derived.Lib.ItoaLen
import Derived.BigQuiet
import Derived.Deep.QuietTactic
import Derived.Test.YtgpfdggdgeplfaaDoorShelf
import Derived.Test.YtgpfdggdgeplfaaDoorTabsT
import Derived.Test.YtgpfdggdgeplfaaDoorPureTok
import Derived.Test.YtgpfdggdgeplfaaDoorQx0
namespace Go.Proofs.YtgpfdggdgeplfaaDoor.Q
open Go.RowKit Go.Proofs.YtgpfdggdgeplfaaDoorW.PrintWords Go.Proofs.YtgpfdggdgeplfaaDoorW.PrintLast

/-- A token. -/
def tokB (back : Bool) (n : Int) : ByteArray := ⟨(tokL back n).toArray⟩
def page_Token.f (a0 : Bool) (a1 : Int) : Option ByteArray := if -9223372036854775808 ≤ a1 ∧ a1 ≤ 9223372036854775807 then some (tokB a0 a1) else none
set_option maxRecDepth 100000 in
set_option maxHeartbeats 4000000 in
theorem page_Token.calls (a0 : Bool) (a1 : Int) (r : ByteArray) (w : World) (hT : Tabs w) (h : page_Token.f a0 a1 = some r) :
    Calls Tryd.prog 6 #[.bool a0, .int .i64 a1] w fun e w' => e = .returned (.string r) ∧ Below w.heap.size w w' := by
  unfold page_Token.f at h
  by_cases hh : -9223372036854775808 ≤ a1 ∧ a1 ≤ 9223372036854775807
  rotate_left
  · rw [if_neg hh] at h; cases h
  rw [if_pos hh] at h
  injection h with h
  have HF := Lib.hid (Tryd.strconv_FormatInt_10 a1 hh.1 hh.2 w hT.1)
  have hlen := Lib.itoa_length_le a1 hh.1 hh.2
  by_cases h0 : a1 < 0
  · have b0 : decide (a1 < 0) = true := decide_eq_true h0
    have hr : r = ⟨#[]⟩ := by rw [← h]; unfold tokB tokL; rw [if_pos h0]
    subst hr
    clear h hh HF hlen h0
    go_enter Tryd.func6, Tryd.ntmps6
    go_wp2
    go_ret
    exact ⟨rfl, Below.refl _ _⟩
  · have b0 : decide (a1 < 0) = false := decide_eq_false h0
    have hr : ∀ c : UInt8, (if a0 then 98 else 102) = c → r = (⟨#[c]⟩ : ByteArray) ++ ⟨(Lib.itoa a1).toArray⟩ := by
      intro c hc
      rw [← h, ← hc]; unfold tokB tokL; rw [if_neg h0]
      apply ByteArray.ext
      rw [ByteArray.data_append]
      simp
    have HR := Lib.hid hr
    clear h hh hr h0
    have hsz : (⟨(Lib.itoa a1).toArray⟩ : ByteArray).size ≤ 21 := by
      show (Lib.itoa a1).toArray.size ≤ 21
      simpa using hlen
    generalize (⟨(Lib.itoa a1).toArray⟩ : ByteArray) = t at *
    clear hlen
    cases a0 with
    | true =>
      have e := HR.out 98 rfl
      subst e
      clear HR
      go_enter Tryd.func6, Tryd.ntmps6
      go_wp2_with fail
      refine HF.out.mono ?_
      rintro e w2 ⟨rfl, k, os, rfl⟩
      have HB := Lib.hid (Go.Lib.below_grow w.heap.size w (Nat.le_refl _) k os)
      clear HF
      go_wp2
      go_ret
      exact ⟨rfl, HB.out⟩
    | false =>
      have e := HR.out 102 rfl
      subst e
      clear HR
      go_enter Tryd.func6, Tryd.ntmps6
      go_wp2_with fail
      refine HF.out.mono ?_
      rintro e w2 ⟨rfl, k, os, rfl⟩
      have HB := Lib.hid (Go.Lib.below_grow w.heap.size w (Nat.le_refl _) k os)
      clear HF
      go_wp2
      go_ret
      exact ⟨rfl, HB.out⟩
def page_Parse.f (a0 : ByteArray) : Option (Bool × Int × Int) := if 281474976710656 < a0.size then none else some (match tokN a0.data.toList with | some (b, u) => (b, (u : Int), 0) | none => (false, 0, 1))
theorem tokN_fst {c : UInt8} {r : List UInt8} {b : Bool} {u : Nat} (h : tokN (c :: r) = some (b, u)) : b = decide (c = 98) ∧ (c :: r).length ≤ 19 := by
  rw [tokN_cons] at h
  split at h
  · next q => injection h with h; injection h with h1 _; exact ⟨h1.symm, q.2.2.2.1⟩
  · cases h
theorem tokN_bad' {c : UInt8} {r : List UInt8} (h : ∀ u : Nat, ¬ (Lib.parseIntB 64 r = .ok (u : Int) ∧ tokL (decide (c = 98)) (u : Int) = c :: r)) : tokN (c :: r) = none := by
  cases hq : tokN (c :: r) with
  | none => rfl
  | some x =>
    obtain ⟨b, u⟩ := x
    have h1 := tokN_fst hq
    rw [h1.1] at hq
    exact absurd ((page_iff c r h1.2 (u : Int)).2 ⟨u, rfl, hq⟩) (h u)
theorem tokN_bad {c : UInt8} {r : List UInt8} (h : ∀ v, Lib.parseIntB 64 r ≠ .ok v) : tokN (c :: r) = none := tokN_bad' (fun _ hu => h _ hu.1)
theorem tokN_len {s : List UInt8} {x : Bool × Nat} (h : tokN s = some x) : s ≠ [] ∧ s.length ≤ 19 := by
  cases s with
  | nil => cases h
  | cons c r =>
    rw [tokN_cons] at h
    split at h
    · next q => exact ⟨by simp, q.2.2.2.1⟩
    · cases h
set_option maxRecDepth 100000 in
set_option maxHeartbeats 4000000 in
theorem page_Parse.calls (a0 : ByteArray) (r1 : Bool) (r2 : Int) (r3 : Int) (w : World) (hT : Tabs w) (h : page_Parse.f a0 = some (r1, r2, r3)) :
    Calls Tryd.prog 4 #[.string a0] w fun e w' => e = .returned (.tuple #[.bool r1, .int .i64 r2, .int .i64 r3]) ∧ Below w.heap.size w w' := by
  unfold page_Parse.f at h
  by_cases hz : 281474976710656 < a0.size
  · rw [if_pos hz] at h; cases h
  rw [if_neg hz] at h
  injection h with h
  by_cases h0 : a0.size = 0
  · have hn : tokN a0.data.toList = none := by
      have : a0.data.toList = [] := by
        have : a0.data.toList.length = 0 := by simpa using h0
        exact List.length_eq_zero_iff.1 this
      rw [this]; rfl
    rw [hn] at h
    simp only [Prod.mk.injEq] at h
    obtain ⟨rfl, rfl, rfl⟩ := h
    have he : a0 = ⟨#[]⟩ := by
      apply ByteArray.ext; exact Array.eq_empty_of_size_eq_zero h0
    subst he
    clear hn hz h0
    go_enter Tryd.func4, Tryd.ntmps4
    go_wp2
    go_ret3
    exact ⟨rfl, Below.refl _ _⟩
  by_cases h19 : 19 < a0.size
  · have hn : tokN a0.data.toList = none := by
      cases hq : tokN a0.data.toList with
      | none => rfl
      | some x => have := (tokN_len hq).2; have : a0.data.toList.length = a0.size := by simp
                  omega
    rw [hn] at h
    simp only [Prod.mk.injEq] at h
    obtain ⟨rfl, rfl, rfl⟩ := h
    have b0 : (a0.toList == ([] : List UInt8)) = false := by
      rw [ByteArray.toList_eq]
      cases hl : a0.data.toList with
      | nil => have : a0.data.toList.length = a0.size := by simp
               rw [hl] at this; simp at this; omega
      | cons c r => rfl
    have b1 : decide ((19 : Int) < (a0.size : Int)) = true := decide_eq_true (by omega)
    clear hn hz h0 h19
    go_enter Tryd.func4, Tryd.ntmps4
    go_wp2
    go_ret3
    exact ⟨rfl, Below.refl _ _⟩
  -- a text of 1 to 19 bytes: its first byte, the rest
  obtain ⟨c, r, hl⟩ : ∃ c r, a0.data.toList = c :: r := by
    cases hq : a0.data.toList with
    | nil => have : a0.data.toList.length = a0.size := by simp
             rw [hq] at this; simp at this; omega
    | cons c r => exact ⟨c, r, rfl⟩
  have hsz : a0.size = r.length + 1 := by
    have : a0.data.toList.length = a0.size := by simp
    rw [hl] at this; simpa using this.symm
  have hx : (a0.extract 1 a0.size).data.toList = r := by
    rw [ByteArray.data_extract, Array.toList_extract, hl, hsz]; simp
  have b0 : (a0.toList == ([] : List UInt8)) = false := by rw [ByteArray.toList_eq, hl]; rfl
  have b1 : decide ((19 : Int) < (a0.size : Int)) = false := decide_eq_false (by omega)
  have hbt : ∀ h : 0 < a0.size, a0[0]'h = c := by
    intro h
    have h1 : 0 < a0.data.toList.length := by rw [hl]; simp
    have e : a0[0]'h = a0.data.toList[0]'h1 := by simp; rfl
    rw [e]; simp [hl]
  have hpg := fun n => page_iff c r (by simp only [List.length_cons]; omega) n
  rw [hl] at h
  have ht : 0 < a0.size := by omega
  have hxs : (a0.extract 1 a0.size).size ≤ 19 := by
    have : (a0.extract 1 a0.size).data.toList.length = (a0.extract 1 a0.size).size := by simp
    rw [hx] at this; omega
  have HH := Lib.hid h; have HPG := Lib.hid hpg; have HL := Lib.hid hl
  clear h hpg hz h0 h19 hl
  have hbt' : ∀ h : 0 < a0.size, ((a0[0]'h).toNat : Int) = (c.toNat : Int) := fun h => by rw [hbt h]
  clear hbt
  cases hp : Lib.parseIntB 64 r
  · rename_i v
    have HC := Lib.hid (Tryd.strconv_ParseInt_10_at64_ok (a0.extract 1 a0.size) (by omega) v (by rw [hx]; exact hp) w)
    have hv := Lib.parseIntB_bounds hp
    have hT1 := Lib.hid (fun W (hb : Below w.heap.size w W) b => page_Token.calls b v (tokB b v) W (hT.below hb) (by unfold page_Token.f; rw [if_pos ⟨by have := hv.1; simpa using this, by have := hv.2; simp at this; omega⟩]))
    have hbk : ((c.toNat : Int) == 98) = decide (c = 98) := by
      rw [Bool.eq_iff_iff]; simp only [beq_iff_eq, decide_eq_true_eq]
      constructor
      · intro h; exact UInt8.toNat_inj.1 (by have : (98 : UInt8).toNat = 98 := rfl
                                             omega)
      · intro h; rw [h]; rfl
    by_cases he : tokL (decide (c = 98)) v = c :: r
    · obtain ⟨u, hu, hn⟩ := HPG.out v |>.1 ⟨hp, he⟩
      have h := HH.out
      rw [hn] at h
      simp only [Prod.mk.injEq] at h
      obtain ⟨rfl, rfl, rfl⟩ := h
      subst hu
      have hq : tokB (decide (c = 98)) (u : Int) = a0 := by
        apply ByteArray.ext; apply Array.toList_inj.1; rw [HL.out]; unfold tokB; rw [he]
      have hT2 := Lib.hid (fun W hb => hT1.out W hb (decide (c = 98)))
      rw [hq, ← hbk] at hT2
      rw [← hbk]
      clear hsz HH HPG HL hx hp hn hT hv he hq hT1 hbk
      go_enter Tryd.func4, Tryd.ntmps4
      go_wp2_with fail
      refine HC.out.mono ?_
      rintro e w2 ⟨rfl, hw⟩
      have hb : Below w.heap.size w w2 := by
        rcases hw with rfl | ⟨t, rfl⟩
        · exact Below.refl _ _
        · exact Lib.bytesWorld_below w _ t
      have HB := Lib.hid hb
      clear HC hw hb
      go_wp2_with fail
      refine (hT2.out _ HB.out).mono ?_
      rintro e w3 ⟨rfl, hb3⟩
      have HB3 := Lib.hid (HB.out.trans (hb3.mono HB.out.size))
      clear hT2 hb3 HB
      go_wp2
      go_ret3
      exact ⟨rfl, HB3.out⟩
    · have hn : tokN (c :: r) = none := tokN_bad' (fun u hu => he (by rw [hp] at hu; injection hu.1 with hu1; rw [hu1]; exact hu.2))
      have h := HH.out
      rw [hn] at h
      simp only [Prod.mk.injEq] at h
      obtain ⟨rfl, rfl, rfl⟩ := h
      have hT2 := Lib.hid (fun W hb => hT1.out W hb (decide (c = 98)))
      rw [← hbk] at hT2
      have hq : ((tokB ((c.toNat : Int) == 98) v).toList != a0.toList) = true := by
        rw [hbk, bne_iff_ne, ByteArray.toList_eq, ByteArray.toList_eq, HL.out]
        exact he
      clear hsz HH HPG HL hx hp hn hT hv he hT1 hbk
      generalize tokB ((c.toNat : Int) == 98) v = tk at hT2 hq
      have hq' : (tk.toList == a0.toList) = false := by simpa using hq
      go_enter Tryd.func4, Tryd.ntmps4
      go_wp2_with fail
      refine HC.out.mono ?_
      rintro e w2 ⟨rfl, hw⟩
      have hb : Below w.heap.size w w2 := by
        rcases hw with rfl | ⟨t, rfl⟩
        · exact Below.refl _ _
        · exact Lib.bytesWorld_below w _ t
      have HB := Lib.hid hb
      clear HC hw hb
      go_wp2_with fail
      refine (hT2.out _ HB.out).mono ?_
      rintro e w3 ⟨rfl, hb3⟩
      have HB3 := Lib.hid (HB.out.trans (hb3.mono HB.out.size))
      clear hT2 hb3 HB
      go_wp2
      go_ret3
      exact ⟨rfl, HB3.out⟩
  · have hn : tokN (c :: r) = none := tokN_bad (fun v => by rw [hp]; simp)
    have h := HH.out
    rw [hn] at h
    simp only [Prod.mk.injEq] at h
    obtain ⟨rfl, rfl, rfl⟩ := h
    obtain ⟨ev, hev1, hev2⟩ := hT.2.1
    have HC := Lib.hid (Tryd.strconv_ParseInt_10_at64_syntax (a0.extract 1 a0.size) (by omega) (by rw [hx]; exact hp) ev w hev1 hev2)
    clear hsz HH HPG HL hx hp hn hT hev1 hev2
    go_enter Tryd.func4, Tryd.ntmps4
    go_wp2_with fail
    refine HC.out.mono ?_
    rintro e w2 ⟨N, rfl, _, _, hb⟩
    have HB := Lib.hid hb
    clear HC hb
    go_wp2
    go_ret3
    exact ⟨rfl, HB.out⟩
  · have hn : tokN (c :: r) = none := tokN_bad (fun v => by rw [hp]; simp)
    have h := HH.out
    rw [hn] at h
    simp only [Prod.mk.injEq] at h
    obtain ⟨rfl, rfl, rfl⟩ := h
    obtain ⟨ev, hev1, hev2⟩ := hT.2.2
    have HC := Lib.hid (Tryd.strconv_ParseInt_10_at64_range (a0.extract 1 a0.size) (by omega) (by rw [hx]; exact hp) ev w hev1 hev2)
    clear hsz HH HPG HL hx hp hn hT hev1 hev2
    go_enter Tryd.func4, Tryd.ntmps4
    go_wp2_with fail
    refine HC.out.mono ?_
    rintro e w2 ⟨N, rfl, _, _, hb⟩
    have HB := Lib.hid hb
    clear HC hb
    go_wp2
    go_ret3
    exact ⟨rfl, HB.out⟩
end Go.Proofs.YtgpfdggdgeplfaaDoor.Q
