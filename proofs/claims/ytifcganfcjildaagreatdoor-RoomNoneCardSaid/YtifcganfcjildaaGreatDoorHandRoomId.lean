/- HandRoomId: a text of this claim's proof, as printed or written, without what the claim does not use. -/
import Derived.WalkKit
import Derived.WalkSpells
import Derived.Deep.LoopGhost
import Derived.Lib.Hide
import Derived.BigQuiet
import Derived.Deep.QuietTactic
import Derived.Test.YtifcganfcjildaaGreatDoorJ7
import Derived.Test.YtifcganfcjildaaGreatDoorJ17
import Derived.Test.YtifcganfcjildaaGreatDoorJ8
import Derived.Test.YtifcganfcjildaaGreatDoorKx0
import Derived.Test.YtifcganfcjildaaGreatDoorKx1
namespace Go.Proofs.YtifcganfcjildaaGreatDoor.K
open Go.RowKit Go.Shelf Go.Proofs.YtifcganfcjildaaGreatDoorW.PrintWords Go.Proofs.YtifcganfcjildaaGreatDoorW.PrintLast
def idLocal1 (c : Int) : Bool := idSmall c || decide (c = 45) || decide (c = 95)
theorem idLocal1_f (c : Int) : ident_local_1.f c = some (idLocal1 c) := by
  have h : ident_small.f c = some (idSmall c) := by
    unfold ident_small.f idSmall
    by_cases h1 : 97 ≤ c <;> by_cases h2 : c ≤ 122 <;> by_cases h3 : 48 ≤ c <;> by_cases h4 : c ≤ 57 <;> by_cases h5 : c = 46 <;> simp [h1, h2, h3, h4, h5] <;> omega
  unfold ident_local_1.f
  rw [h]
  unfold idLocal1
  by_cases h : c = 45 <;> by_cases h2 : c = 95 <;> cases hs : idSmall c <;> simp [h, h2]
set_option maxRecDepth 100000 in
set_option maxHeartbeats 2000000 in
theorem of_local (s : ByteArray) (hs : s.size ≤ 9223372036854775807) (w : World) :
    Calls Tryz.prog 221 #[.string s, .int .i64 32, .func (.func 365) #[] #[]] w fun e w' => e = .returned (.bool (decide (1 ≤ s.size ∧ s.size ≤ 32) && allB idLocal1 s)) ∧ Drawn0 w w' := by
  by_cases h0 : s.size = 0
  · have h1 : s.toList = [] := by
      apply List.eq_nil_of_length_eq_zero; rw [ba_toList_len]; exact h0
    have h2 : s.toList.isEmpty = true := by rw [h1]; rfl
    have HF : decide (1 ≤ s.size ∧ s.size ≤ 32) = false := by simp; omega
    have HH := Lib.hid HF; have H0 := Lib.hid h0; clear HF h0
    go_enter Tryz.func221, Tryz.ntmps221
    go_wp2
    go_ret
    exact ⟨by rw [HH.out]; rfl, Drawn0.refl _⟩
  · have h1 : s.toList ≠ [] := by
      intro h; apply h0; rw [← ba_toList_len, h]; rfl
    have h2 : s.toList.isEmpty = false := by cases hh : s.toList with | nil => exact absurd hh h1 | cons a l => rfl
    by_cases hm : 32 < s.size
    · have HF : decide (1 ≤ s.size ∧ s.size ≤ 32) = false := by simp; omega
      have hd : decide ((32 : Int) < (s.size : Int)) = true := by simp; omega
      have HH := Lib.hid HF; have H0 := Lib.hid h0; have H1 := Lib.hid h1; clear HF h0 h1
      go_enter Tryz.func221, Tryz.ntmps221
      go_wp2
      go_ret
      exact ⟨by rw [HH.out]; rfl, Drawn0.refl _⟩
    · have HF : decide (1 ≤ s.size ∧ s.size ≤ 32) = true := by simp; omega
      have hd : decide ((32 : Int) < (s.size : Int)) = false := by simp; omega
      have HH := Lib.hid HF; have H0 := Lib.hid h0; have H1 := Lib.hid h1; clear HF h0 h1
      go_enter Tryz.func221, Tryz.ntmps221
      go_wp2
      go_loopw [18] (fun i wr => ∃ k : Nat, k ≤ s.size ∧ i = .int .i64 k ∧ Hid (∀ j, j < k → idLocal1 (bt s (j : Int)) = true) ∧ Drawn0 w wr) (fun i _ => s.size - (intOf i).toNat)
      case atStart => exact ⟨0, Nat.zero_le _, rfl, fun j hj => by omega, Drawn0.refl _⟩
      case round =>
        obtain ⟨k, hk, rfl, HA, hD⟩ := hrel
        by_cases hlt : k < s.size
        · have hb0 : (((s[k]'hlt).toNat : Nat) : Int) = bt s (k : Int) := by simp [bt, hlt]
          have hC := fun W => ident_local_1.calls (bt s (k : Int)) (idLocal1 (bt s (k : Int))) W (idLocal1_f _)
          have HC := Lib.hid hC; clear hC
          have HDr := Lib.hid hD; clear hD
          cases hx : idLocal1 (bt s (k : Int)) with
          | true =>
            rw [hx] at HC
            have HX := Lib.hid hx; clear hx
            go_wp2_with fail
            refine (HC.out _).mono ?_
            rintro e w2 ⟨rfl, ⟨nd, rfl⟩⟩
            go_wp2
            go_roundw
            case rel => exact ⟨k + 1, by omega, by simp, fun j hj => by rcases Nat.lt_succ_iff_lt_or_eq.1 hj with h | rfl; exact HA j h; exact HX.out, HDr.out.step _⟩
            case measure => simp [intOf]; omega
          | false =>
            rw [hx] at HC
            have HX := Lib.hid hx; clear hx
            have HL : allB idLocal1 s = false := by
              unfold allB; rw [List.all_eq_false]; exact ⟨k, by simpa using hlt, by rw [HX.out]; decide⟩
            have HL' := Lib.hid HL; clear HL
            go_wp2_with fail
            refine (HC.out _).mono ?_
            rintro e w2 ⟨rfl, ⟨nd, rfl⟩⟩
            go_wp2
            go_ret
            exact ⟨by rw [HL'.out, Bool.and_false]; rfl, HDr.out.step _⟩
        · obtain rfl : k = s.size := by omega
          have HL : allB idLocal1 s = true := by
            unfold allB; rw [List.all_eq_true]; exact fun j hj => HA j (by simpa using hj)
          have HL' := Lib.hid HL; clear HL
          go_wp2
          go_ret
          exact ⟨by rw [HL'.out, HH.out]; rfl, hD⟩
def isLocal (a0 : ByteArray) : Bool := decide (1 ≤ a0.size ∧ a0.size ≤ 32) && allB idLocal1 a0
def isServerB (a0 : ByteArray) : Bool := decide (1 ≤ a0.size ∧ a0.size ≤ 32) && allB idServer1 a0
set_option maxRecDepth 100000 in
set_option maxHeartbeats 2000000 in
theorem local_calls (a0 : ByteArray) (hs : a0.size ≤ 9223372036854775807) (w : World) :
    Calls Tryz.prog 272 #[.string a0] w fun e w' => e = .returned (.bool (isLocal a0)) ∧ Drawn0 w w' := by
  have HO := Lib.hid (of_local a0 hs w)
  have hv : isLocal a0 = (decide (1 ≤ a0.size ∧ a0.size ≤ 32) && allB idLocal1 a0) := rfl
  rw [← hv] at HO
  clear hv
  generalize isLocal a0 = r at *
  go_enter Tryz.func272, Tryz.ntmps272
  go_wp2_with fail
  refine (HO.out).mono ?_
  rintro e w2 ⟨rfl, hd⟩
  go_wp2
  go_ret
  exact ⟨rfl, hd⟩
theorem server_calls (a0 : ByteArray) (hs : a0.size ≤ 9223372036854775807) (w : World) :
    Calls Tryz.prog 141 #[.string a0] w fun e w' => e = .returned (.bool (isServerB a0)) ∧ Drawn0 w w' :=
  ident_Server.calls a0 (isServerB a0) w (by unfold ident_Server.f; rw [if_neg (by omega)]; rfl)
def cutRest (sign s : ByteArray) : ByteArray := ⟨(Lib.trimPrefix s.data.toList sign.data.toList).toArray⟩
def cutName (r : ByteArray) : ByteArray := ⟨(Lib.cut r.data.toList [58]).1.toArray⟩
def cutServer (r : ByteArray) : ByteArray := ⟨(Lib.cut r.data.toList [58]).2.1.toArray⟩
def cutB (sign s : ByteArray) : ByteArray × ByteArray × Bool :=
  if Lib.hasPrefix s.data.toList sign.data.toList && ((Lib.cut (cutRest sign s).data.toList [58]).2.2 && (isLocal (cutName (cutRest sign s)) && isServerB (cutServer (cutRest sign s)))) then (cutName (cutRest sign s), cutServer (cutRest sign s), true) else (⟨#[]⟩, ⟨#[]⟩, false)
theorem cut_len (l : List UInt8) : (Lib.cut l [58]).1.length ≤ l.length ∧ (Lib.cut l [58]).2.1.length ≤ l.length := by
  unfold Lib.cut
  split
  · exact ⟨by simp only [List.length_take]; omega, by simp only [List.length_drop]; omega⟩
  · exact ⟨Nat.le_refl _, Nat.zero_le _⟩
theorem rest_len (sign s : ByteArray) : (cutRest sign s).size ≤ s.size := by
  show (Lib.trimPrefix s.data.toList sign.data.toList).toArray.size ≤ _
  unfold Lib.trimPrefix
  split
  · simp
  · simp
set_option maxRecDepth 100000 in
set_option maxHeartbeats 4000000 in
theorem cut_calls (sign s : ByteArray) (hs : s.size < 4294967281) (w : World) (hT : Tabs w) :
    Calls Tryz.prog 190 #[.string sign, .string s] w fun e w' => e = .returned (.tuple #[.string (cutB sign s).1, .string (cutB sign s).2.1, .bool (cutB sign s).2.2]) ∧ Below w.heap.size w w' := by
  obtain ⟨-, mL, hm⟩ := hT
  have hP := Tryz.strings_CutPrefix s sign
  have hr := rest_len sign s
  have hC := Tryz.strings_Cut (cutRest sign s) ⟨#[58]⟩ mL w (by omega) hm
  obtain ⟨n1, n2⟩ := cut_len (cutRest sign s).data.toList
  have e1 : (cutName (cutRest sign s)).size ≤ (cutRest sign s).size := by
    show (Lib.cut (cutRest sign s).data.toList [58]).1.toArray.size ≤ _
    have : (cutRest sign s).size = (cutRest sign s).data.toList.length := by simp
    rw [this]; simpa using n1
  have e2 : (cutServer (cutRest sign s)).size ≤ (cutRest sign s).size := by
    show (Lib.cut (cutRest sign s).data.toList [58]).2.1.toArray.size ≤ _
    have : (cutRest sign s).size = (cutRest sign s).data.toList.length := by simp
    rw [this]; simpa using n2
  have HL := Lib.hid (fun W => local_calls (cutName (cutRest sign s)) (by omega) W)
  have HS := Lib.hid (fun W => server_calls (cutServer (cutRest sign s)) (by omega) W)
  have hv := cutB.eq_1 sign s
  change ∀ w, Calls Tryz.prog 209 #[.string s, .string sign] w fun e w' => e = .returned (.tuple #[.string (cutRest sign s), .bool (Lib.hasPrefix s.data.toList sign.data.toList)]) ∧ w' = w at hP
  change Calls Tryz.prog 271 #[.string (cutRest sign s), .string ⟨#[58]⟩] w fun e w' => e = .returned (.tuple #[.string (cutName (cutRest sign s)), .string (cutServer (cutRest sign s)), .bool (Lib.cut (cutRest sign s).data.toList [58]).2.2]) ∧ ∃ n, w' = w.drewN n at hC
  clear n1 n2 e1 e2 hr hm
  generalize (Lib.cut (cutRest sign s).data.toList [58]).2.2 = there at *
  generalize cutName (cutRest sign s) = nm at *
  generalize cutServer (cutRest sign s) = sv at *
  generalize cutRest sign s = rest at *
  generalize Lib.hasPrefix s.data.toList sign.data.toList = ok at *
  generalize isLocal nm = lo at *
  generalize isServerB sv = se at *
  have HP := Lib.hid hP; have HC := Lib.hid hC
  clear hP hC
  cases ok <;> cases there <;> cases lo <;> cases se
  all_goals
    simp only [Bool.false_and, Bool.and_false, Bool.true_and, Bool.false_eq_true, if_false, if_true] at hv
    have HV := Lib.hid hv
    clear hv
    go_enter Tryz.func190, Tryz.ntmps190
    go_wp2_with (first | (go_at_call 209; refine (HP.out _).mono ?_; rintro e w2 ⟨rfl, rfl⟩) | (go_at_call 271; refine HC.out.mono ?_; rintro e w3 ⟨rfl, nd, rfl⟩) | (go_at_call 272; refine (HL.out _).mono ?_; rintro e w4 ⟨rfl, ⟨nd4, rfl⟩⟩) | (go_at_call 141; refine (HS.out _).mono ?_; rintro e w5 ⟨rfl, ⟨nd5, rfl⟩⟩))
    go_ret3
    exact ⟨by rw [HV.out]; rfl, by first | exact Below.refl _ _ | exact pw_below_drewN (Below.refl _ _) _ | exact pw_below_drewN (pw_below_drewN (Below.refl _ _) _) _ | exact pw_below_drewN (pw_below_drewN (pw_below_drewN (Below.refl _ _) _) _) _⟩
def roomB (s : ByteArray) : ByteArray × ByteArray × Bool := cutB ⟨#[33]⟩ s
set_option maxRecDepth 100000 in
set_option maxHeartbeats 2000000 in
theorem room_calls (s : ByteArray) (hs : s.size < 4294967281) (w : World) (hT : Tabs w) :
    Calls Tryz.prog 87 #[.string s] w fun e w' => e = .returned (.tuple #[.string (roomB s).1, .string (roomB s).2.1, .bool (roomB s).2.2]) ∧ Below w.heap.size w w' := by
  have hC : Calls Tryz.prog 190 #[.string ⟨#[33]⟩, .string s] w fun e w' => e = .returned (.tuple #[.string (roomB s).1, .string (roomB s).2.1, .bool (roomB s).2.2]) ∧ Below w.heap.size w w' := cut_calls ⟨#[33]⟩ s hs w hT
  have HC := Lib.hid hC
  clear hC
  generalize roomB s = u at *
  obtain ⟨u1, u2, u3⟩ := u
  go_enter Tryz.func87, Tryz.ntmps87
  go_wp2_with (go_at_call 190; refine HC.out.mono ?_; rintro e w2 ⟨rfl, hb⟩)
  go_ret3
  exact ⟨rfl, hb⟩
end Go.Proofs.YtifcganfcjildaaGreatDoor.K
