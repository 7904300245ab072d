/- HandAclMore: a text of this claim's proof, as printed or written, without what the claim does not use. -/
import Derived.WalkKit
import Derived.WalkSpells
import Derived.Lib.Hide
import Derived.BigQuiet
import Derived.Deep.QuietTactic
import Derived.Test.YtcklgalgljmljaaDoorHandMore
import Derived.Test.YtcklgalgljmljaaDoorPureAcls
import Derived.Test.YtcklgalgljmljaaDoorQx14
namespace Go.Proofs.YtcklgalgljmljaaDoor.Q
open Go.RowKit Go.Proofs.YtcklgalgljmljaaDoorW.PrintWords Go.Proofs.YtcklgalgljmljaaDoorW.PrintLast Go.Proofs.YtcklgalgljmljaaDoorW.PrintMore
def CBx (g : Nat) (kd n : Int) (t : ByteArray) (A3 : Option Addr) (n3 c3 : Nat) (A4 : Option Addr) (n4 c4 : Nat) (W : World) : Prop :=
  W.heap[g]? = some (.cells #[.int .i64 kd, .int .i64 n, .string t, .slice A3 n3 c3, .slice A4 n4 c4] 25)
theorem CBx.cells {g : Nat} {kd n : Int} {t : ByteArray} {A3 : Option Addr} {n3 c3 : Nat} {A4 : Option Addr} {n4 c4 : Nat} {W : World} (h : CBx g kd n t A3 n3 c3 A4 n4 c4 W) :
    W.cell? ⟨g, 0, none⟩ = some (.int .i64 kd) ∧ W.cell? ⟨g, 1, none⟩ = some (.int .i64 n) ∧ W.cell? ⟨g, 2, none⟩ = some (.string t) ∧ W.cell? ⟨g, 3, none⟩ = some (.slice A3 n3 c3) ∧ W.cell? ⟨g, 4, none⟩ = some (.slice A4 n4 c4) ∧ g < W.heap.size :=
  ⟨(blk_cell h 0).trans rfl, (blk_cell h 1).trans rfl, (blk_cell h 2).trans rfl, (blk_cell h 3).trans rfl, (blk_cell h 4).trans rfl, blk_lt h⟩
def CAt (w : World) (kd n : Int) (t : ByteArray) (A3 : Option Addr) (n3 c3 : Nat) (A4 : Option Addr) (n4 c4 : Nat) (W : World) : Prop := Below w.heap.size w W ∧ CBx w.heap.size kd n t A3 n3 c3 A4 n4 c4 W
section
variable {w : World} {kd n : Int} {t : ByteArray} {A3 : Option Addr} {n3 c3 : Nat} {A4 : Option Addr} {n4 c4 : Nat} {W W' : World}
theorem CAt.below (h : CAt w kd n t A3 n3 c3 A4 n4 c4 W) (hb : Below W.heap.size W W') : CAt w kd n t A3 n3 c3 A4 n4 c4 W' := ⟨h.1.trans (hb.mono h.1.size), blk_below h.2 hb⟩
theorem CAt.first (w : World) (kd n : Int) (t : ByteArray) (A3 : Option Addr) (n3 c3 : Nat) (A4 : Option Addr) (n4 c4 : Nat) : CAt w kd n t A3 n3 c3 A4 n4 c4 (w.alloc (.cells #[.int .i64 kd, .int .i64 n, .string t, .slice A3 n3 c3, .slice A4 n4 c4] 25)) :=
  ⟨(Below.refl _ _).alloc (Nat.le_refl _) _, blk_new _ _⟩
theorem CAt.drawn (h : CAt w kd n t A3 n3 c3 A4 n4 c4 W) (hb : Drawn0 W W') : CAt w kd n t A3 n3 c3 A4 n4 c4 W' := h.below hb.below
end
theorem list_small (x : JS) (ho : Okay2 x) (key : ByteArray) : agoraref36_List.f 1000000 x.f0 x.f1 x.f2 x.f3 x.f4 key = some (aclList (aclValue x.f0 x.f3 x.f4 key)) := by
  have h1 := ho.1.1
  refine list_f x.f0 x.f1 x.f2 x.f3 (by omega) x.f4 key (fun y hy => ?_) 1000000 (by omega) (fun y hy => ?_)
  · have := okay_value x ho key y hy; omega
  · have := okay_value x ho key y hy; omega
theorem mL_small (x : JS) (ho : Okay2 x) (key : ByteArray) (i : Nat) (l : List ByteArray) (hl : l.length ≤ 1000) : ∀ y ∈ mL x.f3 x.f4 key i ++ [strsJ l], y.f4.length ≤ 1000000 := by
  intro y hy
  rcases List.mem_append.1 hy with hy | hy
  · obtain ⟨q, hq, rfl⟩ := List.mem_map.1 hy
    unfold mPairs at hq
    have h1 := List.mem_of_mem_take (List.mem_filter.1 hq).1
    have h2 := (List.of_mem_zip (a := q.1) (b := q.2) h1).2
    have := (ho.2 _ h2).2.1
    omega
  · simp only [List.mem_cons, List.not_mem_nil, or_false] at hy
    subst hy
    simp [strsJ]; omega
theorem mK_small (x : JS) (ho : Okay2 x) (key : ByteArray) : (mK x.f3 x.f4 key x.f3.length ++ [key]).length ≤ 1000000 := by
  have := mPairs_len x.f3 x.f4 key x.f3.length
  have h1 := ho.1.1
  simp only [mK, List.length_append, List.length_map, List.length_cons, List.length_nil]; omega
set_option linter.unusedSimpArgs false in
set_option maxRecDepth 100000 in
set_option maxHeartbeats 8000000 in
theorem aclMore_calls (x : JS) (p server : ByteArray) (A3 : Option Addr) (c3 : Nat) (A4 : Option Addr) (c4 : Nat) (w : World) (hT : Tabs w)
    (hr3 : Kd.C Kd.string w A3 x.f3.length x.f3) (hc3 : x.f3.length ≤ c3) (hr4 : Kd.C k25 w A4 x.f4.length x.f4) (hc4 : x.f4.length ≤ c4) :
    Calls Tryd.prog 4 #[.agg #[.int .i64 x.f0, .int .i64 x.f1, .string x.f2, .slice A3 x.f3.length c3, .slice A4 x.f4.length c4], .string p, .string server] w fun e w' => e = .returned (.bool true) ∧ Below w.heap.size w w' := by
  obtain ⟨Ks, b, hsm, hok⟩ := small_total x
  have HSm := Lib.hid (fun W (hb : Below w.heap.size w W) => agoralaw36_small.calls Ks x.f0 x.f1 x.f2 A3 c3 x.f3 A4 c4 x.f4 b W (Kd.C_below hr3 hb) hc3 (Kd.C_below hr4 hb) hc4 hsm)
  have H1 := Lib.hid (CAt.first w x.f0 x.f1 x.f2 A3 x.f3.length c3 A4 x.f4.length c4)
  go_enter Tryd.func4, Tryd.ntmps4
  go_wp2_with fail
  refine (HSm.out _ H1.out.1).mono ?_
  rintro e w2 ⟨rfl, hb2⟩
  have H2 := Lib.hid (H1.out.below hb2)
  clear H1 HSm hb2 hsm
  obtain ⟨p0, p1, p2, p3, p4, p5⟩ := H2.out.2.cells
  cases b with
  | false =>
    clear hok
    go_wp2
    go_ret
    exact ⟨rfl, H2.out.1⟩
  | true =>
  have hN := hok rfl
  have ho := hN.two
  clear hok
  by_cases h5 : x.f0 = 5
  rotate_left
  · have b5 : (x.f0 != 5) = true := by simp [h5]
    go_wp2
    go_ret
    exact ⟨rfl, H2.out.1⟩
  have b5 : (x.f0 != 5) = false := by simp [h5]
  have H5 := Lib.hid h5
  clear h5
  obtain ⟨Kg, g, hg, hgl⟩ := Good_f x (hN.less (by omega))
  have HG := Lib.hid (fun W (hb : Below w.heap.size w W) => agoraref01_Good.calls Kg x.f0 x.f1 x.f2 A3 c3 x.f3 A4 c4 x.f4 g W (Kd.C_below hr3 hb) hc3 (Kd.C_below hr4 hb) hc4 hg)
  go_wp2_with fail
  refine (HG.out _ H2.out.1).mono ?_
  rintro e w3 ⟨rfl, hb3⟩
  have H3 := Lib.hid (H2.out.below hb3)
  clear H2 HG hb3 hg p0 p1 p2 p3 p4 p5
  obtain ⟨p0, p1, p2, p3, p4, p5⟩ := H3.out.2.cells
  cases g with
  | false =>
    go_wp2
    go_ret
    exact ⟨rfl, H3.out.1⟩
  | true =>
  by_cases hp : 200 < p.size
  · have b6 : decide ((200 : Int) < (p.size : Int)) = true := decide_eq_true (by omega)
    go_wp2
    go_ret
    exact ⟨rfl, H3.out.1⟩
  have b6 : decide ((200 : Int) < (p.size : Int)) = false := decide_eq_false (by omega)
  by_cases hv : 200 < server.size
  · have b7 : decide ((200 : Int) < (server.size : Int)) = true := decide_eq_true (by omega)
    go_wp2
    go_ret
    exact ⟨rfl, H3.out.1⟩
  have b7 : decide ((200 : Int) < (server.size : Int)) = false := decide_eq_false (by omega)
  have HLa := Lib.hid (fun W (hb : Below w.heap.size w W) => agoraref36_List.calls 1000000 x.f0 x.f1 x.f2 A3 c3 x.f3 A4 c4 x.f4 kAllow _ W (Kd.C_below hr3 hb) hc3 (Kd.C_below hr4 hb) hc4 (list_small x ho kAllow))
  have HLd := Lib.hid (fun W (hb : Below w.heap.size w W) => agoraref36_List.calls 1000000 x.f0 x.f1 x.f2 A3 c3 x.f3 A4 c4 x.f4 kDeny _ W (Kd.C_below hr3 hb) hc3 (Kd.C_below hr4 hb) hc4 (list_small x ho kDeny))
  obtain ⟨La, hLa⟩ : ∃ La, La = aclList (aclValue x.f0 x.f3 x.f4 kAllow) := ⟨_, rfl⟩
  obtain ⟨Ld, hLd⟩ : ∃ Ld, Ld = aclList (aclValue x.f0 x.f3 x.f4 kDeny) := ⟨_, rfl⟩
  rw [← hLa] at HLa
  rw [← hLd] at HLd
  have ELa := Lib.hid hLa; have ELd := Lib.hid hLd
  clear hLa hLd
  go_wp2_with fail
  refine (HLa.out _ H3.out.1).mono ?_
  rintro e w4 ⟨v4, rfl, hR4, hb4⟩
  obtain ⟨A44, c44, rfl⟩ := Kd.R_slice hR4
  have H4 := Lib.hid (H3.out.below hb4)
  clear H3 HLa hb4 hR4 p0 p1 p2 p3 p4 p5
  obtain ⟨p0, p1, p2, p3, p4, p5⟩ := H4.out.2.cells
  by_cases ha : 90 < La.length
  · have b8 : decide ((90 : Int) < (La.length : Int)) = true := decide_eq_true (by omega)
    go_wp2
    go_ret
    exact ⟨rfl, H4.out.1⟩
  have b8 : decide ((90 : Int) < (La.length : Int)) = false := decide_eq_false (by omega)
  go_wp2_with fail
  refine (HLd.out _ H4.out.1).mono ?_
  rintro e w5 ⟨v5, rfl, hR5, hb5⟩
  obtain ⟨A55, c55, rfl⟩ := Kd.R_slice hR5
  have H5' := Lib.hid (H4.out.below hb5)
  clear H4 HLd hb5 hR5 p0 p1 p2 p3 p4 p5
  obtain ⟨p0, p1, p2, p3, p4, p5⟩ := H5'.out.2.cells
  by_cases hd : 90 < Ld.length
  · have b9 : decide ((90 : Int) < (Ld.length : Int)) = true := decide_eq_true (by omega)
    go_wp2
    go_ret
    exact ⟨rfl, H5'.out.1⟩
  have b9 : decide ((90 : Int) < (Ld.length : Int)) = false := decide_eq_false (by omega)
  obtain ⟨Kb, hboth⟩ := both_allowed x.f0 x.f1 x.f2 x.f3 x.f4 server (by omega) (by have := ho.1.1; omega) (fun key y hy => by have := okay_value x ho key y hy; omega)
  have hin := (hboth Kb (Nat.le_refl _)).1
  obtain ⟨Kw, hkw⟩ := awake_true
  have HAl := Lib.hid (fun W (hb : Below w.heap.size w W) => acl_Allowed.calls Kb x.f0 x.f1 x.f2 A3 c3 x.f3 A4 c4 x.f4 server _ W (hT.below hb) (Kd.C_below hr3 hb) hc3 (Kd.C_below hr4 hb) hc4 hin)
  have HAw := Lib.hid (fun W (hb : Below w.heap.size w W) => agoralaw36_awake.calls Kw true W (hT.below hb) (hkw Kw (Nat.le_refl _)))
  have HMo := Lib.hid (fun key L (hL : agoraref36_List.f 1000000 x.f0 x.f1 x.f2 x.f3 x.f4 key = some L) (hl : L.length ≤ 100000) W (hb : Below w.heap.size w W) => more_calls 1000000 x.f0 x.f1 x.f2 A3 c3 x.f3 A4 c4 x.f4 key p L W (Kd.C_below hr3 hb) hc3 (Kd.C_below hr4 hb) hc4 (by have := ho.1.1; omega) (by have := ho.1.2.1; omega) hL hl)
  have HOu := Lib.hid (fun key L (hl : L.length ≤ 100) v (hv : allowedB 5 (mK x.f3 x.f4 key x.f3.length ++ [key]) (mL x.f3 x.f4 key x.f3.length ++ [strsJ ([p] ++ L)]) server = v) W A c B d (hb : Below w.heap.size w W)
      (h3 : Kd.C Kd.string W A (mK x.f3 x.f4 key x.f3.length ++ [key]).length (mK x.f3 x.f4 key x.f3.length ++ [key])) (hc : (mK x.f3 x.f4 key x.f3.length ++ [key]).length ≤ c) (h4 : Kd.C k25 W B (mL x.f3 x.f4 key x.f3.length ++ [strsJ ([p] ++ L)]).length (mL x.f3 x.f4 key x.f3.length ++ [strsJ ([p] ++ L)])) (hd : (mL x.f3 x.f4 key x.f3.length ++ [strsJ ([p] ++ L)]).length ≤ d) =>
    (show Calls Tryd.prog 7 #[.agg #[.int .i64 5, .int .i64 0, .string ⟨#[]⟩, .slice A (mK x.f3 x.f4 key x.f3.length ++ [key]).length c, .slice B (mL x.f3 x.f4 key x.f3.length ++ [strsJ ([p] ++ L)]).length d], .string server] W fun e w' => e = .returned (.bool v) ∧ Below W.heap.size W w' from by
      obtain ⟨K2, h2⟩ := both_allowed 5 0 ⟨#[]⟩ (mK x.f3 x.f4 key x.f3.length ++ [key]) (mL x.f3 x.f4 key x.f3.length ++ [strsJ ([p] ++ L)]) server (by omega) (mK_small x ho key) (fun k y hy => mL_small x ho key x.f3.length ([p] ++ L) (by simp; omega) y (value_mem _ _ _ _ _ hy))
      exact acl_Allowed.calls K2 5 0 ⟨#[]⟩ A c _ B d _ server v W (hT.below hb) h3 hc h4 hd (by rw [← hv]; exact (h2 K2 (Nat.le_refl _)).1)))
  have hkd := H5.out
  have hAll := list_small x ho kAllow
  have hDen := list_small x ho kDeny
  rw [← ELa.out] at hAll
  rw [← ELd.out] at hDen
  rw [hkd] at hin
  have hPA : allowedB x.f0 x.f3 x.f4 server = true → allowedB 5 (mK x.f3 x.f4 kAllow x.f3.length ++ [kAllow]) (mL x.f3 x.f4 kAllow x.f3.length ++ [strsJ ([p] ++ La)]) server = true := fun h => by
    have eLa := ELa.out
    rw [hkd] at eLa h
    rw [eLa]
    exact more_allow x.f3 x.f4 server p x.f3.length (Nat.min_le_left _ _) (by omega) (by rw [← eLa]; omega) h
  have hPD : allowedB x.f0 x.f3 x.f4 server = false → allowedB 5 (mK x.f3 x.f4 kDeny x.f3.length ++ [kDeny]) (mL x.f3 x.f4 kDeny x.f3.length ++ [strsJ ([p] ++ Ld)]) server = false := fun h => by
    have eLd := ELd.out
    rw [hkd] at eLd h
    rw [eLd]
    exact more_deny x.f3 x.f4 server p x.f3.length (Nat.min_le_left _ _) (by omega) (by rw [← eLd]; omega) h
  have HPA := Lib.hid hPA; have HPD := Lib.hid hPD; have HMa := Lib.hid (HMo.out kAllow La hAll (by omega)); have HMd := Lib.hid (HMo.out kDeny Ld hDen (by omega))
  clear hkd hAll hDen hin hboth hkw hPA hPD HMo
  generalize allowedB x.f0 x.f3 x.f4 server = inn at HAl HPA HPD
  go_wp2_with fail
  refine (HAl.out _ H5'.out.1).mono ?_
  rintro e w6 ⟨rfl, hb6⟩
  have H6 := Lib.hid (H5'.out.below hb6)
  clear H5' HAl hb6 p0 p1 p2 p3 p4 p5
  obtain ⟨p0, p1, p2, p3, p4, p5⟩ := H6.out.2.cells
  cases inn with
  | true =>
    have hv := HPA.out rfl
    clear HPA HPD
    go_wp2_with fail
    refine (HMa.out _ H6.out.1).mono ?_
    rintro e w7 ⟨A7, c7, B7, d7, rfl, hb7, g3, hc7, g4, hd7⟩
    have H7 := Lib.hid (H6.out.1.trans (hb7.mono H6.out.1.size))
    have HO := Lib.hid (HOu.out kAllow La (by omega) _ hv w7 A7 c7 B7 d7 H7.out g3 hc7 g4 hd7)
    have H7b := Lib.hid (H6.out.below hb7)
    clear hv g3 g4 hc7 hd7 hb7 H6 H7 HMa HMd HOu p0 p1 p2 p3 p4 p5
    generalize mK x.f3 x.f4 kAllow x.f3.length ++ [kAllow] = ks at HO ⊢
    generalize mL x.f3 x.f4 kAllow x.f3.length ++ [strsJ ([p] ++ La)] = ls at HO ⊢
    obtain ⟨p0, p1, p2, p3, p4, p5⟩ := H7b.out.2.cells
    go_wp2_with fail
    refine HO.out.mono ?_
    rintro e w8 ⟨rfl, hb8⟩
    have H8 := Lib.hid (H7b.out.below hb8)
    clear HO H7b hb8 p0 p1 p2 p3 p4 p5
    obtain ⟨p0, p1, p2, p3, p4, p5⟩ := H8.out.2.cells
    go_wp2_with fail
    refine (HAw.out _ H8.out.1).mono ?_
    rintro e w9 ⟨rfl, hb9⟩
    have H9 := Lib.hid (H8.out.below hb9)
    clear H8 HAw hb9 p0 p1 p2 p3 p4 p5
    go_wp2
    go_ret
    exact ⟨rfl, H9.out.1⟩
  | false =>
    have hv := HPD.out rfl
    clear HPA HPD
    go_wp2_with fail
    refine (HMd.out _ H6.out.1).mono ?_
    rintro e w7 ⟨A7, c7, B7, d7, rfl, hb7, g3, hc7, g4, hd7⟩
    have H7 := Lib.hid (H6.out.1.trans (hb7.mono H6.out.1.size))
    have HO := Lib.hid (HOu.out kDeny Ld (by omega) _ hv w7 A7 c7 B7 d7 H7.out g3 hc7 g4 hd7)
    have H7b := Lib.hid (H6.out.below hb7)
    clear hv g3 g4 hc7 hd7 hb7 H6 H7 HMa HMd HOu p0 p1 p2 p3 p4 p5
    generalize mK x.f3 x.f4 kDeny x.f3.length ++ [kDeny] = ks at HO ⊢
    generalize mL x.f3 x.f4 kDeny x.f3.length ++ [strsJ ([p] ++ Ld)] = ls at HO ⊢
    obtain ⟨p0, p1, p2, p3, p4, p5⟩ := H7b.out.2.cells
    go_wp2_with fail
    refine HO.out.mono ?_
    rintro e w8 ⟨rfl, hb8⟩
    have H8 := Lib.hid (H7b.out.below hb8)
    clear HO H7b hb8 p0 p1 p2 p3 p4 p5
    obtain ⟨p0, p1, p2, p3, p4, p5⟩ := H8.out.2.cells
    go_wp2_with fail
    refine (HAw.out _ H8.out.1).mono ?_
    rintro e w9 ⟨rfl, hb9⟩
    have H9 := Lib.hid (H8.out.below hb9)
    clear H8 HAw hb9 p0 p1 p2 p3 p4 p5
    go_wp2
    go_ret
    exact ⟨rfl, H9.out.1⟩
end Go.Proofs.YtcklgalgljmljaaDoor.Q
