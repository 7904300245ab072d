/- Merged out of: HandIdent, E25. -/
import Derived.WalkKit
import Derived.WalkSpells
import Derived.Deep.LoopGhost
import Derived.Lib.Hide
import Derived.BigQuiet
import Derived.Deep.QuietTactic
import Derived.Test.YtifcganfcjildaaGreatDoorKx0
import Derived.Test.YtifcganfcjildaaGreatDoorKx1
import Derived.Test.YtifcganfcjildaaGreatDoorJ13
/- HandIdent: a text of this claim's proof, as printed or written, without what the claim does not use. -/
namespace Go.Proofs.YtifcganfcjildaaGreatDoor.K
open Go.RowKit Go.Proofs.YtifcganfcjildaaGreatDoorW.PrintWords Go.Proofs.YtifcganfcjildaaGreatDoorW.PrintLast
def idSmall (c : Int) : Bool := decide (97 ≤ c ∧ c ≤ 122) || decide (48 ≤ c ∧ c ≤ 57) || decide (c = 46)
def idServer1 (c : Int) : Bool := idSmall c || decide (c = 45)
def allB (p : Int → Bool) (s : ByteArray) : Bool := (List.range s.size).all (fun i => p (bt s (i : Int)))
theorem idServer1_f (c : Int) : ident_Server_1.f c = some (idServer1 c) := by
  have h : ident_small.f c = some (idSmall c) := by
    unfold ident_small.f idSmall
    by_cases h1 : 97 ≤ c <;> by_cases h2 : c ≤ 122 <;> by_cases h3 : 48 ≤ c <;> by_cases h4 : c ≤ 57 <;> by_cases h5 : c = 46 <;> simp [h1, h2, h3, h4, h5] <;> omega
  unfold ident_Server_1.f
  rw [h]
  unfold idServer1
  by_cases h : c = 45 <;> cases hs : idSmall c <;> simp [h]
theorem ba_toList_len (s : ByteArray) : s.toList.length = s.size := by rw [ByteArray.toList_eq, Array.length_toList]; rfl
set_option maxRecDepth 100000 in
set_option maxHeartbeats 2000000 in
theorem of_Server (s : ByteArray) (hs : s.size ≤ 9223372036854775807) (w : World) :
    Calls Tryz.prog 221 #[.string s, .int .i64 32, .func (.func 222) #[] #[]] w fun e w' => e = .returned (.bool (decide (1 ≤ s.size ∧ s.size ≤ 32) && allB idServer1 s)) ∧ Drawn0 w w' := by
  by_cases h0 : s.size = 0
  · have h1 : s.toList = [] := by
      apply List.eq_nil_of_length_eq_zero; rw [ba_toList_len]; exact h0
    have h2 : s.toList.isEmpty = true := by rw [h1]; rfl
    have HF : decide (1 ≤ s.size ∧ s.size ≤ 32) = false := by simp; omega
    have HH := Lib.hid HF; have H0 := Lib.hid h0; clear HF h0
    go_enter Tryz.func221, Tryz.ntmps221
    go_wp2
    go_ret
    exact ⟨by rw [HH.out]; rfl, Drawn0.refl _⟩
  · have h1 : s.toList ≠ [] := by
      intro h; apply h0; rw [← ba_toList_len, h]; rfl
    have h2 : s.toList.isEmpty = false := by cases hh : s.toList with | nil => exact absurd hh h1 | cons a l => rfl
    by_cases hm : 32 < s.size
    · have HF : decide (1 ≤ s.size ∧ s.size ≤ 32) = false := by simp; omega
      have hd : decide ((32 : Int) < (s.size : Int)) = true := by simp; omega
      have HH := Lib.hid HF; have H0 := Lib.hid h0; have H1 := Lib.hid h1; clear HF h0 h1
      go_enter Tryz.func221, Tryz.ntmps221
      go_wp2
      go_ret
      exact ⟨by rw [HH.out]; rfl, Drawn0.refl _⟩
    · have HF : decide (1 ≤ s.size ∧ s.size ≤ 32) = true := by simp; omega
      have hd : decide ((32 : Int) < (s.size : Int)) = false := by simp; omega
      have HH := Lib.hid HF; have H0 := Lib.hid h0; have H1 := Lib.hid h1; clear HF h0 h1
      go_enter Tryz.func221, Tryz.ntmps221
      go_wp2
      go_loopw [18] (fun i wr => ∃ k : Nat, k ≤ s.size ∧ i = .int .i64 k ∧ Hid (∀ j, j < k → idServer1 (bt s (j : Int)) = true) ∧ Drawn0 w wr) (fun i _ => s.size - (intOf i).toNat)
      case atStart => exact ⟨0, Nat.zero_le _, rfl, fun j hj => by omega, Drawn0.refl _⟩
      case round =>
        obtain ⟨k, hk, rfl, HA, hD⟩ := hrel
        by_cases hlt : k < s.size
        · have hb0 : (((s[k]'hlt).toNat : Nat) : Int) = bt s (k : Int) := by simp [bt, hlt]
          have hC := fun W => ident_Server_1.calls (bt s (k : Int)) (idServer1 (bt s (k : Int))) W (idServer1_f _)
          have HC := Lib.hid hC; clear hC
          have HDr := Lib.hid hD; clear hD
          cases hx : idServer1 (bt s (k : Int)) with
          | true =>
            rw [hx] at HC
            have HX := Lib.hid hx; clear hx
            go_wp2_with fail
            refine (HC.out _).mono ?_
            rintro e w2 ⟨rfl, ⟨nd, rfl⟩⟩
            go_wp2
            go_roundw
            case rel => exact ⟨k + 1, by omega, by simp, fun j hj => by rcases Nat.lt_succ_iff_lt_or_eq.1 hj with h | rfl; exact HA j h; exact HX.out, HDr.out.step _⟩
            case measure => simp [intOf]; omega
          | false =>
            rw [hx] at HC
            have HX := Lib.hid hx; clear hx
            have HL : allB idServer1 s = false := by
              unfold allB; rw [List.all_eq_false]; exact ⟨k, by simpa using hlt, by rw [HX.out]; decide⟩
            have HL' := Lib.hid HL; clear HL
            go_wp2_with fail
            refine (HC.out _).mono ?_
            rintro e w2 ⟨rfl, ⟨nd, rfl⟩⟩
            go_wp2
            go_ret
            exact ⟨by rw [HL'.out, Bool.and_false]; rfl, HDr.out.step _⟩
        · obtain rfl : k = s.size := by omega
          have HL : allB idServer1 s = true := by
            unfold allB; rw [List.all_eq_true]; exact fun j hj => HA j (by simpa using hj)
          have HL' := Lib.hid HL; clear HL
          go_wp2
          go_ret
          exact ⟨by rw [HL'.out, HH.out]; rfl, hD⟩
def ident_Server.f (a0 : ByteArray) : Option Bool := if 9223372036854775807 < a0.size then none else some (decide (1 ≤ a0.size ∧ a0.size ≤ 32) && allB idServer1 a0)
theorem ident_Server.calls (a0 : ByteArray) (r : Bool) (w : World) (h : ident_Server.f a0 = some r) :
    Calls Tryz.prog 141 #[.string a0] w fun e w' => e = .returned (.bool r) ∧ Drawn0 w w' := by
  unfold ident_Server.f at h
  by_cases hb : 9223372036854775807 < a0.size
  · rw [if_pos hb] at h; cases h
  rw [if_neg hb] at h
  injection h with h; subst h
  have hO := of_Server a0 (by omega) w
  have HO := Lib.hid hO; clear hO hb
  generalize (decide (1 ≤ a0.size ∧ a0.size ≤ 32) && allB idServer1 a0) = r at *
  go_enter Tryz.func141, Tryz.ntmps141
  go_wp2_with fail
  refine (HO.out).mono ?_
  rintro e w2 ⟨rfl, hd⟩
  go_wp2
  go_ret
  exact ⟨rfl, hd⟩
end Go.Proofs.YtifcganfcjildaaGreatDoor.K

/- The builtins as a whole. -/
namespace Go.Proofs.YtifcganfcjildaaGreatDoor.E
open Go Go.RowKit
set_option linter.unusedVariables false
set_option linter.unusedSimpArgs false
set_option linter.unnecessarySimpa false
noncomputable section

section
variable {P : Program} {n0 : Nat} {w0 : World} {lm : Nat} {φ : Map} {s s' : HS} {w : World}
theorem maxA_sound {mx : Bool} {l : List AV} {L : List Value} {r : AV} {ts : Array TypeId} {ty : TypeId} (hl : VRs φ l L) (h : maxA mx l = some r) : ∃ R, ((if mx then Builtin.max_ else Builtin.min_) ts ty L.toArray).run P w = .ok R w ∧ VR φ r R := by
  cases hl with
  | nil => cases h
  | cons hv ht =>
    cases hv with
    | int k a =>
      obtain ⟨R, r1, r2⟩ := maxG_sound (P := P) (w := w) ht h
      refine ⟨R, ?_, r2⟩
      cases mx with
      | true => simpa [Builtin.max_] using r1
      | false => simpa [Builtin.min_] using r1
    | _ => cases h
theorem Ans.next {r : AV} {m : Sem Value} (h : Ans P n0 w0 lm φ s s' r m w) {ts : Sem Next} (hm : ∀ w' V, m.run P w = .ok V w' → ts.run P w = .ok (.value V) w') : ∃ ψ w' V, ts.run P w = .ok (.value V) w' ∧ Ext s.next s'.next φ ψ ∧ Rel n0 w0 lm ψ s' w' ∧ VR ψ r V := by
  obtain ⟨ψ, w', V, a1, a2, a3, a4⟩ := h
  exact ⟨ψ, w', V, hm w' V a1, a2, a3, a4⟩
theorem builtA_sound (h : Rel n0 w0 lm φ s w) {b : Builtin} {ts : Array TypeId} {ty : TypeId} {cs : Array Bool} {args : List AV} {L : List Value} {r : AV} (hl : VRs φ args L) (hr : (builtA P b ts args).run s = some (r, s')) (hm : s'.next ≤ lm) :
    ∃ ψ w' V, (builtin b ts ty cs L.toArray).run P w = .ok (.value V) w' ∧ Ext s.next s'.next φ ψ ∧ Rel n0 w0 lm ψ s' w' ∧ VR ψ r V := by
  unfold builtA at hr
  split at hr
  · cases hl with
    | cons hx hn =>
      cases hn
      split at hr
      · cases hr
      · next t ht => exact (lenB_sound (ty := ty) h ht hx hr).next fun w' V e => by simp [builtin, e]
  · cases hl with
    | cons hx hn =>
      cases hn
      split at hr
      · cases hr
      · next t ht => exact (capB_sound (ty := ty) h ht hx hr).next fun w' V e => by simp [builtin, e]
  · cases hl with
    | cons hx hn =>
      cases hn with
      | cons hy hn =>
        cases hn
        split at hr
        · next t tx ht =>
          obtain ⟨hnm, hr2⟩ := cond_run hr
          have : ts = #[t, tx] := Array.toList_inj.1 ht
          subst this
          exact (appendB_sound (ty := ty) h hx hy hnm hr2 hm).next fun w' V e => by simp [builtin, e]
        · cases hr
  · cases hl with
    | cons hx hn =>
      cases hn with
      | cons hy hn =>
        cases hn
        split at hr
        · cases hr
        · next t ht => exact (copyB_sound (ty := ty) h ht hx hy hr).next fun w' V e => by simp [builtin, e]
  · cases hl with
    | cons hx hn =>
      cases hn
      split at hr
      · cases hr
      · next t ht => exact (clearB_sound (ty := ty) h ht hx hr).next fun w' V e => by simp [builtin, e]
  · cases hl with
    | cons hx hn =>
      cases hn with
      | cons hy hn =>
        cases hn
        split at hr
        · next t ht =>
          obtain ⟨u, s1, k1, k2⟩ := Fr.bind_run hr
          obtain ⟨rfl, rfl⟩ := Fr.ret_run k2
          obtain ⟨a1, w', a2, a3⟩ := delA_sound (ty := ty) h ht hx hy k1
          exact ⟨φ, w', .tuple #[], by simp [builtin, a2], by rw [a1]; exact Ext.refl _ _ _, a3, .tup .nil⟩
        · cases hr
  · obtain ⟨e1, rfl⟩ := Fr.of_run hr
    obtain ⟨R, r1, r2⟩ := maxA_sound (P := P) (w := w) (ts := ts) (ty := ty) hl e1
    exact ⟨φ, w, R, by simp only [if_true] at r1; simp [builtin, r1], Ext.refl _ _ _, h, r2⟩
  · obtain ⟨e1, rfl⟩ := Fr.of_run hr
    obtain ⟨R, r1, r2⟩ := maxA_sound (P := P) (w := w) (ts := ts) (ty := ty) hl e1
    exact ⟨φ, w, R, by simp only [Bool.false_eq_true, if_false] at r1; simp [builtin, r1], Ext.refl _ _ _, h, r2⟩
  · cases hr
end
end
end Go.Proofs.YtifcganfcjildaaGreatDoor.E

