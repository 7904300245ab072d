/- HandAcl3: a text of this claim's proof, as printed or written, without what the claim does not use. -/
import Derived.WalkKit
import Derived.WalkSpells
import Derived.Deep.LoopGhost
import Derived.Lib.Hide
import Derived.Laws.EntriesVeiled
import Derived.BigQuiet
import Derived.Deep.QuietTactic
import Derived.Test.YtcklgalgljmljaaDoorShelf
import Derived.Test.YtcklgalgljmljaaDoorTabs
import Derived.Test.YtcklgalgljmljaaDoorHandGlob
import Derived.Test.YtcklgalgljmljaaDoorHandIdent
import Derived.Test.YtcklgalgljmljaaDoorHandAcl2
namespace Go.Proofs.YtcklgalgljmljaaDoor.Q
open Go.RowKit Go.Shelf Go.Proofs.YtcklgalgljmljaaDoorW.PrintWords Go.Proofs.YtcklgalgljmljaaDoorW.PrintLast
def kAli : ByteArray := ⟨#[97, 108, 108, 111, 119, 95, 105, 112, 95, 108, 105, 116, 101, 114, 97, 108, 115]⟩
def kDeny : ByteArray := ⟨#[100, 101, 110, 121]⟩
def kAllow : ByteArray := ⟨#[97, 108, 108, 111, 119]⟩
def aclBars (o : Option JS) (s : ByteArray) : Bool :=
  match o with
  | none => false
  | some v => (v.f0 == 1) && ((v.f1 == 0) && aclLiteral s)
def isServer (s : ByteArray) : Bool := decide (1 ≤ s.size ∧ s.size ≤ 32) && allB idServer1 s
def acl_Allowed.f (k : Nat) (a0_0 _a0_1 : Int) (_a0_2 : ByteArray) (l0_3 : List ByteArray) (l0_4 : List JS) (a1 : ByteArray) : Option Bool :=
  if 1000000000 < a1.size then none else if 9223372036854775806 < l0_3.length then none else
  if isServer a1 = false then some false else
  if aclBars (aclValue a0_0 l0_3 l0_4 kAli) a1 = true then some false else
  (aclOne (fun p => glob_Fold.f k p a1) (aclValue a0_0 l0_3 l0_4 kDeny)).bind fun t => if t = true then some false else aclOne (fun p => glob_Fold.f k p a1) (aclValue a0_0 l0_3 l0_4 kAllow)
set_option maxRecDepth 100000 in
set_option maxHeartbeats 2000000 in
theorem fits_calls (k : Nat) (s : ByteArray) (g : Nat) (x : ByteArray) (b : Bool) (w : World) (hT : Tabs w) (hg : w.cell? ⟨g, 0, none⟩ = some (.string s)) (h : glob_Fold.f k x s = some b) :
    Calls Tryd.prog 16 #[.string x, .pointer (some ⟨g, 0, none⟩)] w fun e w' => e = .returned (.bool b) ∧ Below w.heap.size w w' := by
  have hF := glob_Fold.calls k x s b w hT h
  have HF := Lib.hid hF; clear hF h hT
  go_enter Tryd.func16, Tryd.ntmps16
  go_wp2_with fail
  refine HF.out.mono ?_
  rintro e w2 ⟨rfl, hb⟩
  go_wp2
  go_ret
  exact ⟨rfl, hb⟩
theorem fits_enters : ∀ args w, (callFunc 16 args).run Tryd.prog w = .ok (.enter 16 args) w := enters_of Tryd.func16 (by kernel_rfl) rfl
def AclBox (w W : World) (kind n : Int) (t : ByteArray) (A : Option Addr) (a c : Nat) (B : Option Addr) (b d : Nat) (s : ByteArray) : Prop :=
  W.cell? ⟨w.heap.size, 0, none⟩ = some (.int .i64 kind) ∧ W.cell? ⟨w.heap.size, 1, none⟩ = some (.int .i64 n) ∧ W.cell? ⟨w.heap.size, 2, none⟩ = some (.string t) ∧ W.cell? ⟨w.heap.size, 3, none⟩ = some (.slice A a c) ∧ W.cell? ⟨w.heap.size, 4, none⟩ = some (.slice B b d) ∧
  W.cell? ⟨w.heap.size + 1, 0, none⟩ = some (.string s) ∧ w.heap.size + 1 < W.heap.size ∧ Below w.heap.size w W
theorem AclBox.below {w W W' : World} {kind n : Int} {t : ByteArray} {A : Option Addr} {a c : Nat} {B : Option Addr} {b d : Nat} {s : ByteArray} (h : AclBox w W kind n t A a c B b d s) (hb : Below W.heap.size W W') : AclBox w W' kind n t A a c B b d s := by
  obtain ⟨h0, h1, h2, h3, h4, h5, h6, h7⟩ := h
  exact ⟨pw_cell_below hb h0, pw_cell_below hb h1, pw_cell_below hb h2, pw_cell_below hb h3, pw_cell_below hb h4, pw_cell_below hb h5, Nat.lt_of_lt_of_le h6 hb.size, h7.trans (hb.mono h7.size)⟩
theorem AclBox.first (w : World) (kind n : Int) (t : ByteArray) (A : Option Addr) (a c : Nat) (B : Option Addr) (b d : Nat) (s : ByteArray) :
    AclBox w ((w.alloc (.cells #[.int .i64 kind, .int .i64 n, .string t, .slice A a c, .slice B b d] 25)).alloc (.cells #[.string s] 9)) kind n t A a c B b d s := by
  have hs : (w.alloc (.cells #[.int .i64 kind, .int .i64 n, .string t, .slice A a c, .slice B b d] 25)).heap.size = w.heap.size + 1 := by simp
  refine ⟨?_, ?_, ?_, ?_, ?_, ?_, by simp, ((Below.refl _ _).alloc (Nat.le_refl _) _).alloc (by simp) _⟩
  iterate 5 (rw [World.cell?_alloc_past _ _ _ (by rw [hs]; omega), World.cell?_alloc_at _ _ _ _ rfl]; rfl)
  rw [World.cell?_alloc_at _ _ _ _ hs.symm]; rfl
set_option maxRecDepth 100000 in
set_option maxHeartbeats 4000000 in
theorem acl_Allowed.calls (k : Nat) (a0_0 a0_1 : Int) (a0_2 : ByteArray) (A0_3 : Option Addr) (c0_3 : Nat) (l0_3 : List ByteArray) (A0_4 : Option Addr) (c0_4 : Nat) (l0_4 : List JS) (a1 : ByteArray) (r : Bool) (w : World) (hT : Tabs w) (hr0_3 : Kd.C Kd.string w A0_3 l0_3.length l0_3) (hc0_3 : l0_3.length ≤ c0_3) (hr0_4 : Kd.C k25 w A0_4 l0_4.length l0_4) (hc0_4 : l0_4.length ≤ c0_4) (h : acl_Allowed.f k a0_0 a0_1 a0_2 l0_3 l0_4 a1 = some r) :
    Calls Tryd.prog 7 #[.agg #[.int .i64 a0_0, .int .i64 a0_1, .string a0_2, .slice A0_3 l0_3.length c0_3, .slice A0_4 l0_4.length c0_4], .string a1] w fun e w' => e = .returned (.bool r) ∧ Below w.heap.size w w' := by
  unfold acl_Allowed.f at h
  by_cases hz : 1000000000 < a1.size
  · rw [if_pos hz] at h; cases h
  by_cases hl : 9223372036854775806 < l0_3.length
  · rw [if_neg hz, if_pos hl] at h; cases h
  rw [if_neg hz, if_neg hl] at h
  have H := Lib.hid h; clear h
  have hbx := AclBox.first w a0_0 a0_1 a0_2 A0_3 l0_3.length c0_3 A0_4 l0_4.length c0_4 a1
  have HT := Lib.hid hT; have HR3 := Lib.hid hr0_3; have HC3 := Lib.hid hc0_3; have HR4 := Lib.hid hr0_4; have HC4 := Lib.hid hc0_4
  clear hT hr0_3 hc0_3 hr0_4 hc0_4
  have hV : ∀ W key, Below w.heap.size w W → Calls Tryd.prog 18 #[.agg #[.int .i64 a0_0, .int .i64 a0_1, .string a0_2, .slice A0_3 l0_3.length c0_3, .slice A0_4 l0_4.length c0_4], .string key] W fun e w' => Below W.heap.size W w' ∧ valEnds (aclValue a0_0 l0_3 l0_4 key) W e :=
    fun W key hb => value_calls a0_0 a0_1 a0_2 A0_3 c0_3 l0_3 A0_4 c0_4 l0_4 key W (by omega) (Kd.C_below HR3.out hb) HC3.out (Kd.C_below HR4.out hb) HC4.out
  have hI : ∀ W, Calls Tryd.prog 19 #[.string a1] W fun e w' => e = .returned (.bool (isServer a1)) ∧ Drawn0 W w' :=
    fun W => ident_Server.calls a1 _ W (by unfold ident_Server.f; rw [if_neg (by omega)]; rfl)
  have hL : ∀ W, Below w.heap.size w W → Calls Tryd.prog 20 #[.string a1] W fun e w' => e = .returned (.bool (aclLiteral a1)) ∧ Below W.heap.size W w' :=
    fun W hb => literal_calls a1 (by omega) W (HT.out.below hb)
  have hO : ∀ W key b, AclBox w W a0_0 a0_1 a0_2 A0_3 l0_3.length c0_3 A0_4 l0_4.length c0_4 a1 → aclOne (fun p => glob_Fold.f k p a1) (aclValue a0_0 l0_3 l0_4 key) = some b →
      Calls Tryd.prog 21 #[.agg #[.int .i64 a0_0, .int .i64 a0_1, .string a0_2, .slice A0_3 l0_3.length c0_3, .slice A0_4 l0_4.length c0_4], .string key, .func (.func 16) #[] #[.pointer (some ⟨w.heap.size + 1, 0, none⟩)]] W fun e w' => e = .returned (.bool b) ∧ Below W.heap.size W w' :=
    fun W key b hx hb => one_calls 16 #[.pointer (some ⟨w.heap.size + 1, 0, none⟩)] fits_enters (fun p => glob_Fold.f k p a1) a0_0 a0_1 a0_2 A0_3 c0_3 l0_3 A0_4 c0_4 l0_4 key b W (by omega) (Kd.C_below HR3.out hx.2.2.2.2.2.2.2) HC3.out (Kd.C_below HR4.out hx.2.2.2.2.2.2.2) HC4.out
      (fun W' x b' hf hb' => fits_calls k a1 (w.heap.size + 1) x b' W' (HT.out.below (hx.below hb').2.2.2.2.2.2.2) (hx.below hb').2.2.2.2.2.1 hf) hb
  have HV := Lib.hid hV; have HI := Lib.hid hI; have HL := Lib.hid hL; have HO := Lib.hid hO; have HBX := Lib.hid hbx
  clear hV hI hL hO HR3 HC3 HR4 HC4 HT hbx
  go_enter Tryd.func7, Tryd.ntmps7
  go_wp2_with fail
  refine (HV.out _ _ HBX.out.2.2.2.2.2.2.2).mono ?_
  rintro e w2 ⟨hb, hv⟩
  have hbx2 := HBX.out.below hb
  have HBX2 := Lib.hid hbx2
  obtain ⟨k0, k1, k2, k3, k4, k5, k6, -⟩ := hbx2
  have k7 : w.heap.size < w2.heap.size := by omega
  have hE : ∃ f0 f1 f2 A' n3 c' B' n4 d' ok, e = .returned (.tuple #[.agg #[.int .i64 f0, .int .i64 f1, .string f2, .slice A' n3 c', .slice B' n4 d'], .bool ok]) ∧ aclBars (aclValue a0_0 l0_3 l0_4 kAli) a1 = (ok && ((f0 == 1) && ((f1 == 0) && aclLiteral a1))) := by
    have hv' : valEnds (aclValue a0_0 l0_3 l0_4 kAli) _ e := hv
    generalize aclValue a0_0 l0_3 l0_4 kAli = o at hv'
    cases o with
    | none => exact ⟨0, 0, ByteArray.empty, none, 0, 0, none, 0, 0, false, hv', rfl⟩
    | some v =>
      obtain ⟨A', c', B', d', he, -⟩ := hv'
      exact ⟨v.f0, v.f1, v.f2, A', v.f3.length, c', B', v.f4.length, d', true, he, rfl⟩
  clear HV HBX hv
  obtain ⟨f0, f1, f2, A', n3, c', B', n4, d', ok, rfl, hA⟩ := hE
  have h' := H.out
  rw [hA] at h'
  clear H hA
  have hb2 : Below w2.heap.size w2 (w2.alloc (.cells #[.int .i64 f0, .int .i64 f1, .string f2, .slice A' n3 c', .slice B' n4 d'] 25)) := (Below.refl _ _).alloc (Nat.le_refl _) _
  have HB2 := Lib.hid hb2; clear hb2
  cases hs : isServer a1 with
  | false =>
    rw [hs] at h' HI
    obtain rfl : false = r := by simpa using h'
    clear h' hs
    go_wp2_with fail
    refine (HI.out _).mono ?_
    rintro e w3 ⟨rfl, ⟨nd, rfl⟩⟩
    go_wp2
    go_ret
    exact ⟨rfl, (HBX2.out.below (pw_below_drewN HB2.out nd)).2.2.2.2.2.2.2⟩
  | true =>
    rw [hs] at h' HI
    rw [if_neg (by simp)] at h'
    clear hs
    cases ok with
    | false =>
      rw [if_neg (by simp)] at h'
      go_wp2_with fail
      refine (HI.out _).mono ?_
      rintro e w3 ⟨rfl, ⟨nd, rfl⟩⟩
      have HBX3 := Lib.hid (HBX2.out.below (pw_below_drewN HB2.out nd))
      obtain ⟨t, hd⟩ : ∃ t, aclOne (fun p => glob_Fold.f k p a1) (aclValue a0_0 l0_3 l0_4 kDeny) = some t := by
        cases hh : aclOne (fun p => glob_Fold.f k p a1) (aclValue a0_0 l0_3 l0_4 kDeny) with
        | none => rw [hh] at h'; cases h'
        | some t => exact ⟨t, rfl⟩
      rw [hd] at h'
      have HD := Lib.hid (HO.out _ kDeny t HBX3.out hd)
      clear hd
      cases t with
      | true =>
        obtain rfl : false = r := by simpa using h'
        clear h'
        go_wp2_with fail
        refine HD.out.mono ?_
        rintro e w5 ⟨rfl, hb5⟩
        have HBX5 := Lib.hid (HBX3.out.below hb5)
        go_wp2
        go_ret
        exact ⟨rfl, HBX5.out.2.2.2.2.2.2.2⟩
      | false =>
        have h'' : aclOne (fun p => glob_Fold.f k p a1) (aclValue a0_0 l0_3 l0_4 kAllow) = some r := by simpa using h'
        have H2 := Lib.hid h''
        clear h' h''
        go_wp2_with fail
        refine HD.out.mono ?_
        rintro e w5 ⟨rfl, hb5⟩
        have HBX5 := Lib.hid (HBX3.out.below hb5)
        obtain ⟨q0, q1, q2, q3, q4, q5, q6, -⟩ := HBX5.out
        have HE := Lib.hid (HO.out _ kAllow r HBX5.out H2.out)
        go_wp2_with fail
        refine HE.out.mono ?_
        rintro e w6 ⟨rfl, hb6⟩
        have HBX6 := Lib.hid (HBX5.out.below hb6)
        go_wp2
        go_ret
        exact ⟨rfl, HBX6.out.2.2.2.2.2.2.2⟩
    | true =>
      cases e1 : (f0 == 1) with
      | false =>
        rw [e1, if_neg (by simp)] at h'
        go_wp2_with fail
        refine (HI.out _).mono ?_
        rintro e w3 ⟨rfl, ⟨nd, rfl⟩⟩
        have HBX3 := Lib.hid (HBX2.out.below (pw_below_drewN HB2.out nd))
        obtain ⟨t, hd⟩ : ∃ t, aclOne (fun p => glob_Fold.f k p a1) (aclValue a0_0 l0_3 l0_4 kDeny) = some t := by
          cases hh : aclOne (fun p => glob_Fold.f k p a1) (aclValue a0_0 l0_3 l0_4 kDeny) with
          | none => rw [hh] at h'; cases h'
          | some t => exact ⟨t, rfl⟩
        rw [hd] at h'
        have HD := Lib.hid (HO.out _ kDeny t HBX3.out hd)
        clear hd
        cases t with
        | true =>
          obtain rfl : false = r := by simpa using h'
          clear h'
          go_wp2_with fail
          refine HD.out.mono ?_
          rintro e w5 ⟨rfl, hb5⟩
          have HBX5 := Lib.hid (HBX3.out.below hb5)
          go_wp2
          go_ret
          exact ⟨rfl, HBX5.out.2.2.2.2.2.2.2⟩
        | false =>
          have h'' : aclOne (fun p => glob_Fold.f k p a1) (aclValue a0_0 l0_3 l0_4 kAllow) = some r := by simpa using h'
          have H2 := Lib.hid h''
          clear h' h''
          go_wp2_with fail
          refine HD.out.mono ?_
          rintro e w5 ⟨rfl, hb5⟩
          have HBX5 := Lib.hid (HBX3.out.below hb5)
          obtain ⟨q0, q1, q2, q3, q4, q5, q6, -⟩ := HBX5.out
          have HE := Lib.hid (HO.out _ kAllow r HBX5.out H2.out)
          go_wp2_with fail
          refine HE.out.mono ?_
          rintro e w6 ⟨rfl, hb6⟩
          have HBX6 := Lib.hid (HBX5.out.below hb6)
          go_wp2
          go_ret
          exact ⟨rfl, HBX6.out.2.2.2.2.2.2.2⟩
      | true =>
        cases e2 : (f1 == 0) with
        | false =>
          rw [e1, e2, if_neg (by simp)] at h'
          go_wp2_with fail
          refine (HI.out _).mono ?_
          rintro e w3 ⟨rfl, ⟨nd, rfl⟩⟩
          have HBX3 := Lib.hid (HBX2.out.below (pw_below_drewN HB2.out nd))
          obtain ⟨t, hd⟩ : ∃ t, aclOne (fun p => glob_Fold.f k p a1) (aclValue a0_0 l0_3 l0_4 kDeny) = some t := by
            cases hh : aclOne (fun p => glob_Fold.f k p a1) (aclValue a0_0 l0_3 l0_4 kDeny) with
            | none => rw [hh] at h'; cases h'
            | some t => exact ⟨t, rfl⟩
          rw [hd] at h'
          have HD := Lib.hid (HO.out _ kDeny t HBX3.out hd)
          clear hd
          cases t with
          | true =>
            obtain rfl : false = r := by simpa using h'
            clear h'
            go_wp2_with fail
            refine HD.out.mono ?_
            rintro e w5 ⟨rfl, hb5⟩
            have HBX5 := Lib.hid (HBX3.out.below hb5)
            go_wp2
            go_ret
            exact ⟨rfl, HBX5.out.2.2.2.2.2.2.2⟩
          | false =>
            have h'' : aclOne (fun p => glob_Fold.f k p a1) (aclValue a0_0 l0_3 l0_4 kAllow) = some r := by simpa using h'
            have H2 := Lib.hid h''
            clear h' h''
            go_wp2_with fail
            refine HD.out.mono ?_
            rintro e w5 ⟨rfl, hb5⟩
            have HBX5 := Lib.hid (HBX3.out.below hb5)
            obtain ⟨q0, q1, q2, q3, q4, q5, q6, -⟩ := HBX5.out
            have HE := Lib.hid (HO.out _ kAllow r HBX5.out H2.out)
            go_wp2_with fail
            refine HE.out.mono ?_
            rintro e w6 ⟨rfl, hb6⟩
            have HBX6 := Lib.hid (HBX5.out.below hb6)
            go_wp2
            go_ret
            exact ⟨rfl, HBX6.out.2.2.2.2.2.2.2⟩
        | true =>
          rw [e1, e2] at h'
          cases hL : aclLiteral a1 with
          | true =>
            rw [hL] at h' HL
            obtain rfl : false = r := by simpa using h'
            clear h' hL
            go_wp2_with fail
            refine (HI.out _).mono ?_
            rintro e w3 ⟨rfl, ⟨nd, rfl⟩⟩
            have HBX3 := Lib.hid (HBX2.out.below (pw_below_drewN HB2.out nd))
            go_wp2_with fail
            refine (HL.out _ HBX3.out.2.2.2.2.2.2.2).mono ?_
            rintro e w4 ⟨rfl, hb4⟩
            have HBX4 := Lib.hid (HBX3.out.below hb4)
            go_wp2
            go_ret
            exact ⟨rfl, HBX4.out.2.2.2.2.2.2.2⟩
          | false =>
            rw [hL] at h' HL
            rw [if_neg (by simp)] at h'
            clear hL
            go_wp2_with fail
            refine (HI.out _).mono ?_
            rintro e w3 ⟨rfl, ⟨nd, rfl⟩⟩
            have HBX3 := Lib.hid (HBX2.out.below (pw_below_drewN HB2.out nd))
            go_wp2_with fail
            refine (HL.out _ HBX3.out.2.2.2.2.2.2.2).mono ?_
            rintro e w4 ⟨rfl, hb4⟩
            have HBX4 := Lib.hid (HBX3.out.below hb4)
            have hbx4 := HBX4.out
            obtain ⟨m0, m1, m2, m3, m4, m5, m6, -⟩ := hbx4
            clear k0 k1 k2 k3 k4 k5 k6 k7
            obtain ⟨t, hd⟩ : ∃ t, aclOne (fun p => glob_Fold.f k p a1) (aclValue a0_0 l0_3 l0_4 kDeny) = some t := by
              cases hh : aclOne (fun p => glob_Fold.f k p a1) (aclValue a0_0 l0_3 l0_4 kDeny) with
              | none => rw [hh] at h'; cases h'
              | some t => exact ⟨t, rfl⟩
            rw [hd] at h'
            have HD := Lib.hid (HO.out _ kDeny t HBX4.out hd)
            clear hd
            cases t with
            | true =>
              obtain rfl : false = r := by simpa using h'
              clear h'
              go_wp2_with fail
              refine HD.out.mono ?_
              rintro e w5 ⟨rfl, hb5⟩
              have HBX5 := Lib.hid (HBX4.out.below hb5)
              go_wp2
              go_ret
              exact ⟨rfl, HBX5.out.2.2.2.2.2.2.2⟩
            | false =>
              have h'' : aclOne (fun p => glob_Fold.f k p a1) (aclValue a0_0 l0_3 l0_4 kAllow) = some r := by simpa using h'
              have H2 := Lib.hid h''
              clear h' h''
              go_wp2_with fail
              refine HD.out.mono ?_
              rintro e w5 ⟨rfl, hb5⟩
              have HBX5 := Lib.hid (HBX4.out.below hb5)
              obtain ⟨q0, q1, q2, q3, q4, q5, q6, -⟩ := HBX5.out
              have HE := Lib.hid (HO.out _ kAllow r HBX5.out H2.out)
              go_wp2_with fail
              refine HE.out.mono ?_
              rintro e w6 ⟨rfl, hb6⟩
              have HBX6 := Lib.hid (HBX5.out.below hb6)
              go_wp2
              go_ret
              exact ⟨rfl, HBX6.out.2.2.2.2.2.2.2⟩
end Go.Proofs.YtcklgalgljmljaaDoor.Q
