/- PureLeft: a text of this claim's proof, as printed or written, without what the claim does not use. -/
import Derived.Test.YtodhmbnfliajiaaGreatDoorJ6
import Derived.Test.YtodhmbnfliajiaaGreatDoorJ9
import Derived.Test.YtodhmbnfliajiaaGreatDoorQx0
import Derived.Test.YtodhmbnfliajiaaGreatDoorQx4
namespace Go.Proofs.YtodhmbnfliajiaaGreatDoor.Q
open Go.RowKit Go.Proofs.YtodhmbnfliajiaaGreatDoorW.PrintWords Go.Proofs.YtodhmbnfliajiaaGreatDoorW.PrintLast Go.Proofs.YtodhmbnfliajiaaGreatDoorW.PrintMore
def Okay (x : JS) : Prop := x.f3.length ≤ 100 ∧ x.f4.length ≤ 300 ∧ x.f2.size ≤ 2000 ∧ ∀ y ∈ x.f3, y.size ≤ 300
def OkayN : Nat → JS → Prop
  | 0, _ => True
  | n + 1, x => Okay x ∧ ∀ y ∈ x.f4, OkayN n y
theorem left_l1 (d : Nat) (hd : d ≤ 20) (ih : ∀ (x : JS) (n : Int), n ≤ 300 → ∃ K r, agoralaw05_left.f K x.f0 x.f1 x.f2 x.f3 x.f4 n (d : Int) = some r ∧ -1 ≤ r ∧ r ≤ 300 ∧ (0 ≤ r → OkayN d x)) (x : JS) (hl : x.f4.length ≤ 300) :
    ∀ (m i : Nat) (n : Int), m = x.f4.length - i → i ≤ x.f4.length → -1 ≤ n → n ≤ 300 → ∃ K r, agoralaw05_left.l1 K n ((d + 1 : Nat) : Int) (i : Int) x.f0 x.f1 x.f2 x.f3 x.f4 = some r ∧ -1 ≤ r ∧ r ≤ 300 ∧ (0 ≤ r → ∀ y ∈ x.f4.drop i, OkayN d y)
  | 0, i, n, hm, hi, h1, h2 => by
    refine ⟨1, n, ?_, h1, h2, fun _ y hy => ?_⟩
    · rw [agoralaw05_left.l1, if_neg (by omega)]
    · rw [List.drop_of_length_le (by omega)] at hy; cases hy
  | m + 1, i, n, hm, hi, h1, h2 => by
    have hlt : i < x.f4.length := by omega
    have hrd : rd_T27 x.f4 (i : Int) = x.f4[i] := by simp [rd_T27, hlt]
    by_cases h0 : n < 0
    · refine ⟨1, n, ?_, h1, h2, fun h => by omega⟩
      rw [agoralaw05_left.l1, if_pos (by omega), if_neg (by omega)]
    · obtain ⟨K1, r1, e1, a1, b1, c1⟩ := ih x.f4[i] n h2
      obtain ⟨K2, r2, e2, a2, b2, c2⟩ := left_l1 d hd ih x hl m (i + 1) r1 (by omega) (by omega) a1 b1
      have hw : wrap64 (((d + 1 : Nat) : Int) - 1) = (d : Int) := by rw [wrap_small _ (by omega) (by omega)]; omega
      refine ⟨K1 + K2 + 1, r2, ?_, a2, b2, fun h => ?_⟩
      · rw [agoralaw05_left.l1, if_pos (by omega), if_pos (by omega), if_pos (by omega), hrd, hw, at_rounds (fun k => agoralaw05_left.mono _ _ _ _ _ _ _ k) (Nat.le_add_right K1 K2) e1, Option.bind_some, nat_succ_wrap i (by omega)]
        exact at_rounds (fun k => (agoralaw05_left.mono_l k).2.2.2 _ _ _ _ _ _ _ _) (Nat.le_add_left K2 K1) e2
      · intro y hy
        rw [List.drop_eq_getElem_cons hlt] at hy
        have hr1 : 0 ≤ r1 := by
          by_cases hr : 0 ≤ r1
          · exact hr
          · exfalso
            have : r2 = r1 := by
              have q : agoralaw05_left.l1 (K2 + 1) r1 ((d + 1 : Nat) : Int) ((i + 1 : Nat) : Int) x.f0 x.f1 x.f2 x.f3 x.f4 = some r1 := by
                rw [agoralaw05_left.l1]
                by_cases z : ((i + 1 : Nat) : Int) < (x.f4.length : Int)
                · rw [if_pos z, if_neg (by omega)]
                · rw [if_neg z]
              have q2 := at_rounds (fun k => (agoralaw05_left.mono_l k).2.2.2 _ _ _ _ _ _ _ _) (Nat.le_succ K2) e2
              rw [q] at q2; injection q2 with q2; exact q2.symm
            omega
        rcases List.mem_cons.1 hy with rfl | hy
        · exact c1 hr1
        · exact c2 h y hy
theorem left_l0 (d : Nat) (x : JS) (hl : x.f3.length ≤ 100) (Q : Int → Prop) (n : Int) (h : ∃ K r, agoralaw05_left.l1 K n (d : Int) 0 x.f0 x.f1 x.f2 x.f3 x.f4 = some r ∧ -1 ≤ r ∧ r ≤ 300 ∧ (0 ≤ r → Q r)) :
    ∀ (m i : Nat), m = x.f3.length - i → i ≤ x.f3.length → ∃ K r, agoralaw05_left.l0 K n (d : Int) (i : Int) x.f0 x.f1 x.f2 x.f3 x.f4 = some r ∧ -1 ≤ r ∧ r ≤ 300 ∧ (0 ≤ r → Q r ∧ ∀ y ∈ x.f3.drop i, y.size ≤ 300)
  | 0, i, hm, hi => by
    obtain ⟨K, r, e, q1, q2, q3⟩ := h
    refine ⟨K + 1, r, ?_, q1, q2, fun h => ⟨q3 h, fun y hy => by rw [List.drop_of_length_le (by omega)] at hy; cases hy⟩⟩
    rw [agoralaw05_left.l0, if_neg (by omega)]; exact e
  | m + 1, i, hm, hi => by
    obtain ⟨K, r, e, q1, q2, q3⟩ := left_l0 d x hl Q n h m (i + 1) (by omega) (by omega)
    have hlt : i < x.f3.length := by omega
    have hrd : rdOf ByteArray.empty x.f3 (i : Int) = x.f3[i] := by simp [rdOf, hlt]
    by_cases c : ((rdOf ByteArray.empty x.f3 (i : Int)).size : Int) > 300
    · refine ⟨1, -1, ?_, by omega, by omega, by omega⟩
      rw [agoralaw05_left.l0, if_pos (by omega), if_pos (by omega), if_pos c]
    · refine ⟨K + 1, r, ?_, q1, q2, fun h => ⟨(q3 h).1, fun y hy => ?_⟩⟩
      rotate_left
      · rw [List.drop_eq_getElem_cons hlt] at hy
        rcases List.mem_cons.1 hy with rfl | hy
        · rw [hrd] at c; omega
        · exact (q3 h).2 y hy
      rw [agoralaw05_left.l0, if_pos (by omega), if_pos (by omega), if_neg c, nat_succ_wrap i (by omega)]; exact e
theorem left_f : ∀ (d : Nat), d ≤ 20 → ∀ (x : JS) (n : Int), n ≤ 300 → ∃ K r, agoralaw05_left.f K x.f0 x.f1 x.f2 x.f3 x.f4 n (d : Int) = some r ∧ -1 ≤ r ∧ r ≤ 300 ∧ (0 ≤ r → OkayN d x)
  | 0, _, x, n, hn => by
    refine ⟨2, -1, ?_, by omega, by omega, by omega⟩
    rw [agoralaw05_left.f]
    by_cases h1 : n < 1
    · rw [if_pos h1, agoralaw05_left.j0, if_pos rfl]
    · rw [if_neg h1, if_pos (by decide), agoralaw05_left.j0, if_pos rfl]
  | d + 1, hd, x, n, hn => by
    have bad : agoralaw05_left.j0 1 n ((d + 1 : Nat) : Int) true x.f0 x.f1 x.f2 x.f3 x.f4 = some (-1) := by rw [agoralaw05_left.j0, if_pos rfl]
    have fin : ∀ {P : Prop}, agoralaw05_left.f 2 x.f0 x.f1 x.f2 x.f3 x.f4 n ((d + 1 : Nat) : Int) = some (-1) → ∃ K r, agoralaw05_left.f K x.f0 x.f1 x.f2 x.f3 x.f4 n ((d + 1 : Nat) : Int) = some r ∧ -1 ≤ r ∧ r ≤ 300 ∧ (0 ≤ r → P) := fun e => ⟨2, -1, e, by omega, by omega, by omega⟩
    by_cases h1 : n < 1
    · exact fin (by rw [agoralaw05_left.f, if_pos h1]; exact bad)
    by_cases h2 : (x.f2.size : Int) > 2000
    · exact fin (by rw [agoralaw05_left.f, if_neg h1, if_neg (by omega), if_pos h2]; exact bad)
    by_cases h3 : (x.f3.length : Int) > 100
    · exact fin (by rw [agoralaw05_left.f, if_neg h1, if_neg (by omega), if_neg h2, if_pos h3]; exact bad)
    by_cases h4 : (x.f4.length : Int) > 300
    · exact fin (by rw [agoralaw05_left.f, if_neg h1, if_neg (by omega), if_neg h2, if_neg h3, decide_eq_true h4]; exact bad)
    have hw : wrap64 (n - 1) = n - 1 := wrap_small _ (by omega) (by omega)
    have hq : ∃ K r, agoralaw05_left.l1 K (n - 1) ((d + 1 : Nat) : Int) 0 x.f0 x.f1 x.f2 x.f3 x.f4 = some r ∧ -1 ≤ r ∧ r ≤ 300 ∧ (0 ≤ r → ∀ y ∈ x.f4, OkayN d y) := by
      obtain ⟨K, r, e, a, b, c⟩ := left_l1 d (by omega) (left_f d (by omega)) x (by omega) x.f4.length 0 (n - 1) (by omega) (by omega) (by omega) (by omega)
      exact ⟨K, r, e, a, b, fun h y hy => c h y (by simpa using hy)⟩
    obtain ⟨K, r, e, q1, q2, q3⟩ := left_l0 (d + 1) x (by omega) (fun _ => ∀ y ∈ x.f4, OkayN d y) (n - 1) hq x.f3.length 0 (by omega) (by omega)
    refine ⟨K + 2, r, ?_, q1, q2, fun h => ⟨⟨by omega, by omega, by omega, fun y hy => (q3 h).2 y (by simpa using hy)⟩, (q3 h).1⟩⟩
    rw [agoralaw05_left.f, if_neg h1, if_neg (by omega), if_neg h2, if_neg h3, decide_eq_false h4, agoralaw05_left.j0, if_neg (by decide), hw]
    exact e
section
variable (room type sender : ByteArray) (key : ByteArray) (c : JS) (prev auth : List ByteArray) (hash : ByteArray) (sigs : List S69)
structure EvFits : Prop where
  room : room.size ≤ 2000
  type : type.size ≤ 2000
  sender : sender.size ≤ 2000
  key : key.size ≤ 2000
  hash : hash.size ≤ 2000
  prev : prev.length ≤ 30
  auth : auth.length ≤ 30
  sigs : sigs.length ≤ 30
  okay : OkayN 20 c
end
end Go.Proofs.YtodhmbnfliajiaaGreatDoor.Q
