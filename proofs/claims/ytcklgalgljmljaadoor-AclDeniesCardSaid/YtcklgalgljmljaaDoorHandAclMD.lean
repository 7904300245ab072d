/- Merged out of: HandAclMore, HandAclDenies. -/
import Derived.WalkKit
import Derived.WalkSpells
import Derived.Lib.Hide
import Derived.BigQuiet
import Derived.Deep.QuietTactic
import Derived.Test.YtcklgalgljmljaaDoorHandMore
import Derived.Test.YtcklgalgljmljaaDoorPureAcls
import Derived.Test.YtcklgalgljmljaaDoorQx14
import Derived.Deep.LoopGhost
/- HandAclMore: a text of this claim's proof, as printed or written, without what the claim does not use. -/
namespace Go.Proofs.YtcklgalgljmljaaDoor.Q
open Go.RowKit Go.Proofs.YtcklgalgljmljaaDoorW.PrintWords Go.Proofs.YtcklgalgljmljaaDoorW.PrintLast Go.Proofs.YtcklgalgljmljaaDoorW.PrintMore
def CBx (g : Nat) (kd n : Int) (t : ByteArray) (A3 : Option Addr) (n3 c3 : Nat) (A4 : Option Addr) (n4 c4 : Nat) (W : World) : Prop :=
  W.heap[g]? = some (.cells #[.int .i64 kd, .int .i64 n, .string t, .slice A3 n3 c3, .slice A4 n4 c4] 25)
theorem CBx.cells {g : Nat} {kd n : Int} {t : ByteArray} {A3 : Option Addr} {n3 c3 : Nat} {A4 : Option Addr} {n4 c4 : Nat} {W : World} (h : CBx g kd n t A3 n3 c3 A4 n4 c4 W) :
    W.cell? ⟨g, 0, none⟩ = some (.int .i64 kd) ∧ W.cell? ⟨g, 1, none⟩ = some (.int .i64 n) ∧ W.cell? ⟨g, 2, none⟩ = some (.string t) ∧ W.cell? ⟨g, 3, none⟩ = some (.slice A3 n3 c3) ∧ W.cell? ⟨g, 4, none⟩ = some (.slice A4 n4 c4) ∧ g < W.heap.size :=
  ⟨(blk_cell h 0).trans rfl, (blk_cell h 1).trans rfl, (blk_cell h 2).trans rfl, (blk_cell h 3).trans rfl, (blk_cell h 4).trans rfl, blk_lt h⟩
def CAt (w : World) (kd n : Int) (t : ByteArray) (A3 : Option Addr) (n3 c3 : Nat) (A4 : Option Addr) (n4 c4 : Nat) (W : World) : Prop := Below w.heap.size w W ∧ CBx w.heap.size kd n t A3 n3 c3 A4 n4 c4 W
section
variable {w : World} {kd n : Int} {t : ByteArray} {A3 : Option Addr} {n3 c3 : Nat} {A4 : Option Addr} {n4 c4 : Nat} {W W' : World}
theorem CAt.below (h : CAt w kd n t A3 n3 c3 A4 n4 c4 W) (hb : Below W.heap.size W W') : CAt w kd n t A3 n3 c3 A4 n4 c4 W' := ⟨h.1.trans (hb.mono h.1.size), blk_below h.2 hb⟩
theorem CAt.first (w : World) (kd n : Int) (t : ByteArray) (A3 : Option Addr) (n3 c3 : Nat) (A4 : Option Addr) (n4 c4 : Nat) : CAt w kd n t A3 n3 c3 A4 n4 c4 (w.alloc (.cells #[.int .i64 kd, .int .i64 n, .string t, .slice A3 n3 c3, .slice A4 n4 c4] 25)) :=
  ⟨(Below.refl _ _).alloc (Nat.le_refl _) _, blk_new _ _⟩
theorem CAt.drawn (h : CAt w kd n t A3 n3 c3 A4 n4 c4 W) (hb : Drawn0 W W') : CAt w kd n t A3 n3 c3 A4 n4 c4 W' := h.below hb.below
end
theorem list_small (x : JS) (ho : Okay2 x) (key : ByteArray) : agoraref36_List.f 1000000 x.f0 x.f1 x.f2 x.f3 x.f4 key = some (aclList (aclValue x.f0 x.f3 x.f4 key)) := by
  have h1 := ho.1.1
  refine list_f x.f0 x.f1 x.f2 x.f3 (by omega) x.f4 key (fun y hy => ?_) 1000000 (by omega) (fun y hy => ?_)
  · have := okay_value x ho key y hy; omega
  · have := okay_value x ho key y hy; omega
theorem mL_small (x : JS) (ho : Okay2 x) (key : ByteArray) (i : Nat) (l : List ByteArray) (hl : l.length ≤ 1000) : ∀ y ∈ mL x.f3 x.f4 key i ++ [strsJ l], y.f4.length ≤ 1000000 := by
  intro y hy
  rcases List.mem_append.1 hy with hy | hy
  · obtain ⟨q, hq, rfl⟩ := List.mem_map.1 hy
    unfold mPairs at hq
    have h1 := List.mem_of_mem_take (List.mem_filter.1 hq).1
    have h2 := (List.of_mem_zip (a := q.1) (b := q.2) h1).2
    have := (ho.2 _ h2).2.1
    omega
  · simp only [List.mem_cons, List.not_mem_nil, or_false] at hy
    subst hy
    simp [strsJ]; omega
theorem mK_small (x : JS) (ho : Okay2 x) (key : ByteArray) : (mK x.f3 x.f4 key x.f3.length ++ [key]).length ≤ 1000000 := by
  have := mPairs_len x.f3 x.f4 key x.f3.length
  have h1 := ho.1.1
  simp only [mK, List.length_append, List.length_map, List.length_cons, List.length_nil]; omega
set_option linter.unusedSimpArgs false in
set_option maxRecDepth 100000 in
set_option maxHeartbeats 8000000 in
theorem aclMore_calls (x : JS) (p server : ByteArray) (A3 : Option Addr) (c3 : Nat) (A4 : Option Addr) (c4 : Nat) (w : World) (hT : Tabs w)
    (hr3 : Kd.C Kd.string w A3 x.f3.length x.f3) (hc3 : x.f3.length ≤ c3) (hr4 : Kd.C k25 w A4 x.f4.length x.f4) (hc4 : x.f4.length ≤ c4) :
    Calls Tryd.prog 4 #[.agg #[.int .i64 x.f0, .int .i64 x.f1, .string x.f2, .slice A3 x.f3.length c3, .slice A4 x.f4.length c4], .string p, .string server] w fun e w' => e = .returned (.bool true) ∧ Below w.heap.size w w' := by
  obtain ⟨Ks, b, hsm, hok⟩ := small_total x
  have HSm := Lib.hid (fun W (hb : Below w.heap.size w W) => agoralaw36_small.calls Ks x.f0 x.f1 x.f2 A3 c3 x.f3 A4 c4 x.f4 b W (Kd.C_below hr3 hb) hc3 (Kd.C_below hr4 hb) hc4 hsm)
  have H1 := Lib.hid (CAt.first w x.f0 x.f1 x.f2 A3 x.f3.length c3 A4 x.f4.length c4)
  go_enter Tryd.func4, Tryd.ntmps4
  go_wp2_with fail
  refine (HSm.out _ H1.out.1).mono ?_
  rintro e w2 ⟨rfl, hb2⟩
  have H2 := Lib.hid (H1.out.below hb2)
  clear H1 HSm hb2 hsm
  obtain ⟨p0, p1, p2, p3, p4, p5⟩ := H2.out.2.cells
  cases b with
  | false =>
    clear hok
    go_wp2
    go_ret
    exact ⟨rfl, H2.out.1⟩
  | true =>
  have hN := hok rfl
  have ho := hN.two
  clear hok
  by_cases h5 : x.f0 = 5
  rotate_left
  · have b5 : (x.f0 != 5) = true := by simp [h5]
    go_wp2
    go_ret
    exact ⟨rfl, H2.out.1⟩
  have b5 : (x.f0 != 5) = false := by simp [h5]
  have H5 := Lib.hid h5
  clear h5
  obtain ⟨Kg, g, hg, hgl⟩ := Good_f x (hN.less (by omega))
  have HG := Lib.hid (fun W (hb : Below w.heap.size w W) => agoraref01_Good.calls Kg x.f0 x.f1 x.f2 A3 c3 x.f3 A4 c4 x.f4 g W (Kd.C_below hr3 hb) hc3 (Kd.C_below hr4 hb) hc4 hg)
  go_wp2_with fail
  refine (HG.out _ H2.out.1).mono ?_
  rintro e w3 ⟨rfl, hb3⟩
  have H3 := Lib.hid (H2.out.below hb3)
  clear H2 HG hb3 hg p0 p1 p2 p3 p4 p5
  obtain ⟨p0, p1, p2, p3, p4, p5⟩ := H3.out.2.cells
  cases g with
  | false =>
    go_wp2
    go_ret
    exact ⟨rfl, H3.out.1⟩
  | true =>
  by_cases hp : 200 < p.size
  · have b6 : decide ((200 : Int) < (p.size : Int)) = true := decide_eq_true (by omega)
    go_wp2
    go_ret
    exact ⟨rfl, H3.out.1⟩
  have b6 : decide ((200 : Int) < (p.size : Int)) = false := decide_eq_false (by omega)
  by_cases hv : 200 < server.size
  · have b7 : decide ((200 : Int) < (server.size : Int)) = true := decide_eq_true (by omega)
    go_wp2
    go_ret
    exact ⟨rfl, H3.out.1⟩
  have b7 : decide ((200 : Int) < (server.size : Int)) = false := decide_eq_false (by omega)
  have HLa := Lib.hid (fun W (hb : Below w.heap.size w W) => agoraref36_List.calls 1000000 x.f0 x.f1 x.f2 A3 c3 x.f3 A4 c4 x.f4 kAllow _ W (Kd.C_below hr3 hb) hc3 (Kd.C_below hr4 hb) hc4 (list_small x ho kAllow))
  have HLd := Lib.hid (fun W (hb : Below w.heap.size w W) => agoraref36_List.calls 1000000 x.f0 x.f1 x.f2 A3 c3 x.f3 A4 c4 x.f4 kDeny _ W (Kd.C_below hr3 hb) hc3 (Kd.C_below hr4 hb) hc4 (list_small x ho kDeny))
  obtain ⟨La, hLa⟩ : ∃ La, La = aclList (aclValue x.f0 x.f3 x.f4 kAllow) := ⟨_, rfl⟩
  obtain ⟨Ld, hLd⟩ : ∃ Ld, Ld = aclList (aclValue x.f0 x.f3 x.f4 kDeny) := ⟨_, rfl⟩
  rw [← hLa] at HLa
  rw [← hLd] at HLd
  have ELa := Lib.hid hLa; have ELd := Lib.hid hLd
  clear hLa hLd
  go_wp2_with fail
  refine (HLa.out _ H3.out.1).mono ?_
  rintro e w4 ⟨v4, rfl, hR4, hb4⟩
  obtain ⟨A44, c44, rfl⟩ := Kd.R_slice hR4
  have H4 := Lib.hid (H3.out.below hb4)
  clear H3 HLa hb4 hR4 p0 p1 p2 p3 p4 p5
  obtain ⟨p0, p1, p2, p3, p4, p5⟩ := H4.out.2.cells
  by_cases ha : 90 < La.length
  · have b8 : decide ((90 : Int) < (La.length : Int)) = true := decide_eq_true (by omega)
    go_wp2
    go_ret
    exact ⟨rfl, H4.out.1⟩
  have b8 : decide ((90 : Int) < (La.length : Int)) = false := decide_eq_false (by omega)
  go_wp2_with fail
  refine (HLd.out _ H4.out.1).mono ?_
  rintro e w5 ⟨v5, rfl, hR5, hb5⟩
  obtain ⟨A55, c55, rfl⟩ := Kd.R_slice hR5
  have H5' := Lib.hid (H4.out.below hb5)
  clear H4 HLd hb5 hR5 p0 p1 p2 p3 p4 p5
  obtain ⟨p0, p1, p2, p3, p4, p5⟩ := H5'.out.2.cells
  by_cases hd : 90 < Ld.length
  · have b9 : decide ((90 : Int) < (Ld.length : Int)) = true := decide_eq_true (by omega)
    go_wp2
    go_ret
    exact ⟨rfl, H5'.out.1⟩
  have b9 : decide ((90 : Int) < (Ld.length : Int)) = false := decide_eq_false (by omega)
  obtain ⟨Kb, hboth⟩ := both_allowed x.f0 x.f1 x.f2 x.f3 x.f4 server (by omega) (by have := ho.1.1; omega) (fun key y hy => by have := okay_value x ho key y hy; omega)
  have hin := (hboth Kb (Nat.le_refl _)).1
  obtain ⟨Kw, hkw⟩ := awake_true
  have HAl := Lib.hid (fun W (hb : Below w.heap.size w W) => acl_Allowed.calls Kb x.f0 x.f1 x.f2 A3 c3 x.f3 A4 c4 x.f4 server _ W (hT.below hb) (Kd.C_below hr3 hb) hc3 (Kd.C_below hr4 hb) hc4 hin)
  have HAw := Lib.hid (fun W (hb : Below w.heap.size w W) => agoralaw36_awake.calls Kw true W (hT.below hb) (hkw Kw (Nat.le_refl _)))
  have HMo := Lib.hid (fun key L (hL : agoraref36_List.f 1000000 x.f0 x.f1 x.f2 x.f3 x.f4 key = some L) (hl : L.length ≤ 100000) W (hb : Below w.heap.size w W) => more_calls 1000000 x.f0 x.f1 x.f2 A3 c3 x.f3 A4 c4 x.f4 key p L W (Kd.C_below hr3 hb) hc3 (Kd.C_below hr4 hb) hc4 (by have := ho.1.1; omega) (by have := ho.1.2.1; omega) hL hl)
  have HOu := Lib.hid (fun key L (hl : L.length ≤ 100) v (hv : allowedB 5 (mK x.f3 x.f4 key x.f3.length ++ [key]) (mL x.f3 x.f4 key x.f3.length ++ [strsJ ([p] ++ L)]) server = v) W A c B d (hb : Below w.heap.size w W)
      (h3 : Kd.C Kd.string W A (mK x.f3 x.f4 key x.f3.length ++ [key]).length (mK x.f3 x.f4 key x.f3.length ++ [key])) (hc : (mK x.f3 x.f4 key x.f3.length ++ [key]).length ≤ c) (h4 : Kd.C k25 W B (mL x.f3 x.f4 key x.f3.length ++ [strsJ ([p] ++ L)]).length (mL x.f3 x.f4 key x.f3.length ++ [strsJ ([p] ++ L)])) (hd : (mL x.f3 x.f4 key x.f3.length ++ [strsJ ([p] ++ L)]).length ≤ d) =>
    (show Calls Tryd.prog 7 #[.agg #[.int .i64 5, .int .i64 0, .string ⟨#[]⟩, .slice A (mK x.f3 x.f4 key x.f3.length ++ [key]).length c, .slice B (mL x.f3 x.f4 key x.f3.length ++ [strsJ ([p] ++ L)]).length d], .string server] W fun e w' => e = .returned (.bool v) ∧ Below W.heap.size W w' from by
      obtain ⟨K2, h2⟩ := both_allowed 5 0 ⟨#[]⟩ (mK x.f3 x.f4 key x.f3.length ++ [key]) (mL x.f3 x.f4 key x.f3.length ++ [strsJ ([p] ++ L)]) server (by omega) (mK_small x ho key) (fun k y hy => mL_small x ho key x.f3.length ([p] ++ L) (by simp; omega) y (value_mem _ _ _ _ _ hy))
      exact acl_Allowed.calls K2 5 0 ⟨#[]⟩ A c _ B d _ server v W (hT.below hb) h3 hc h4 hd (by rw [← hv]; exact (h2 K2 (Nat.le_refl _)).1)))
  have hkd := H5.out
  have hAll := list_small x ho kAllow
  have hDen := list_small x ho kDeny
  rw [← ELa.out] at hAll
  rw [← ELd.out] at hDen
  rw [hkd] at hin
  have hPA : allowedB x.f0 x.f3 x.f4 server = true → allowedB 5 (mK x.f3 x.f4 kAllow x.f3.length ++ [kAllow]) (mL x.f3 x.f4 kAllow x.f3.length ++ [strsJ ([p] ++ La)]) server = true := fun h => by
    have eLa := ELa.out
    rw [hkd] at eLa h
    rw [eLa]
    exact more_allow x.f3 x.f4 server p x.f3.length (Nat.min_le_left _ _) (by omega) (by rw [← eLa]; omega) h
  have hPD : allowedB x.f0 x.f3 x.f4 server = false → allowedB 5 (mK x.f3 x.f4 kDeny x.f3.length ++ [kDeny]) (mL x.f3 x.f4 kDeny x.f3.length ++ [strsJ ([p] ++ Ld)]) server = false := fun h => by
    have eLd := ELd.out
    rw [hkd] at eLd h
    rw [eLd]
    exact more_deny x.f3 x.f4 server p x.f3.length (Nat.min_le_left _ _) (by omega) (by rw [← eLd]; omega) h
  have HPA := Lib.hid hPA; have HPD := Lib.hid hPD; have HMa := Lib.hid (HMo.out kAllow La hAll (by omega)); have HMd := Lib.hid (HMo.out kDeny Ld hDen (by omega))
  clear hkd hAll hDen hin hboth hkw hPA hPD HMo
  generalize allowedB x.f0 x.f3 x.f4 server = inn at HAl HPA HPD
  go_wp2_with fail
  refine (HAl.out _ H5'.out.1).mono ?_
  rintro e w6 ⟨rfl, hb6⟩
  have H6 := Lib.hid (H5'.out.below hb6)
  clear H5' HAl hb6 p0 p1 p2 p3 p4 p5
  obtain ⟨p0, p1, p2, p3, p4, p5⟩ := H6.out.2.cells
  cases inn with
  | true =>
    have hv := HPA.out rfl
    clear HPA HPD
    go_wp2_with fail
    refine (HMa.out _ H6.out.1).mono ?_
    rintro e w7 ⟨A7, c7, B7, d7, rfl, hb7, g3, hc7, g4, hd7⟩
    have H7 := Lib.hid (H6.out.1.trans (hb7.mono H6.out.1.size))
    have HO := Lib.hid (HOu.out kAllow La (by omega) _ hv w7 A7 c7 B7 d7 H7.out g3 hc7 g4 hd7)
    have H7b := Lib.hid (H6.out.below hb7)
    clear hv g3 g4 hc7 hd7 hb7 H6 H7 HMa HMd HOu p0 p1 p2 p3 p4 p5
    generalize mK x.f3 x.f4 kAllow x.f3.length ++ [kAllow] = ks at HO ⊢
    generalize mL x.f3 x.f4 kAllow x.f3.length ++ [strsJ ([p] ++ La)] = ls at HO ⊢
    obtain ⟨p0, p1, p2, p3, p4, p5⟩ := H7b.out.2.cells
    go_wp2_with fail
    refine HO.out.mono ?_
    rintro e w8 ⟨rfl, hb8⟩
    have H8 := Lib.hid (H7b.out.below hb8)
    clear HO H7b hb8 p0 p1 p2 p3 p4 p5
    obtain ⟨p0, p1, p2, p3, p4, p5⟩ := H8.out.2.cells
    go_wp2_with fail
    refine (HAw.out _ H8.out.1).mono ?_
    rintro e w9 ⟨rfl, hb9⟩
    have H9 := Lib.hid (H8.out.below hb9)
    clear H8 HAw hb9 p0 p1 p2 p3 p4 p5
    go_wp2
    go_ret
    exact ⟨rfl, H9.out.1⟩
  | false =>
    have hv := HPD.out rfl
    clear HPA HPD
    go_wp2_with fail
    refine (HMd.out _ H6.out.1).mono ?_
    rintro e w7 ⟨A7, c7, B7, d7, rfl, hb7, g3, hc7, g4, hd7⟩
    have H7 := Lib.hid (H6.out.1.trans (hb7.mono H6.out.1.size))
    have HO := Lib.hid (HOu.out kDeny Ld (by omega) _ hv w7 A7 c7 B7 d7 H7.out g3 hc7 g4 hd7)
    have H7b := Lib.hid (H6.out.below hb7)
    clear hv g3 g4 hc7 hd7 hb7 H6 H7 HMa HMd HOu p0 p1 p2 p3 p4 p5
    generalize mK x.f3 x.f4 kDeny x.f3.length ++ [kDeny] = ks at HO ⊢
    generalize mL x.f3 x.f4 kDeny x.f3.length ++ [strsJ ([p] ++ Ld)] = ls at HO ⊢
    obtain ⟨p0, p1, p2, p3, p4, p5⟩ := H7b.out.2.cells
    go_wp2_with fail
    refine HO.out.mono ?_
    rintro e w8 ⟨rfl, hb8⟩
    have H8 := Lib.hid (H7b.out.below hb8)
    clear HO H7b hb8 p0 p1 p2 p3 p4 p5
    obtain ⟨p0, p1, p2, p3, p4, p5⟩ := H8.out.2.cells
    go_wp2_with fail
    refine (HAw.out _ H8.out.1).mono ?_
    rintro e w9 ⟨rfl, hb9⟩
    have H9 := Lib.hid (H8.out.below hb9)
    clear H8 HAw hb9 p0 p1 p2 p3 p4 p5
    go_wp2
    go_ret
    exact ⟨rfl, H9.out.1⟩
end Go.Proofs.YtcklgalgljmljaaDoor.Q

/- HandAclDenies: a text of this claim's proof, as printed or written, without what the claim does not use. -/
namespace Go.Proofs.YtcklgalgljmljaaDoor.Q
open Go.RowKit Go.Proofs.YtcklgalgljmljaaDoorW.PrintWords Go.Proofs.YtcklgalgljmljaaDoorW.PrintLast Go.Proofs.YtcklgalgljmljaaDoorW.PrintMore
structure DInv (w : World) (kd n : Int) (t : ByteArray) (A3 : Option Addr) (c3 : Nat) (keys : List ByteArray) (A4 : Option Addr) (c4 : Nat) (list : List JS) (Ad : Option Addr) (cd : Nat) (dk : List ByteArray) (Bd : Option Addr) (dd : Nat) (dl : List JS) (gd go : Nat) (i : Nat) (A5 : Option Addr) (c5 : Nat) (A6 : Option Addr) (c6 : Nat) (W : World) : Prop where
  i1 : i ≤ keys.length
  gd1 : w.heap.size < gd
  go1 : gd < go
  go2 : go < W.heap.size
  bel : Below w.heap.size w W
  bc : W.heap[w.heap.size]? = some (.cells #[.int .i64 kd, .int .i64 n, .string t, .slice A3 keys.length c3, .slice A4 list.length c4] 25)
  bd : W.heap[gd]? = some (.cells #[.int .i64 5, .int .i64 0, .string ⟨#[]⟩, .slice Ad dk.length cd, .slice Bd dl.length dd] 25)
  bo : W.heap[go]? = some (.cells #[.int .i64 5, .int .i64 0, .string ⟨#[]⟩, .slice A5 (sK keys list kAllow i).length c5, .slice A6 (sL keys list kAllow i).length c6] 25)
  l5 : (sK keys list kAllow i).length ≤ c5
  l6 : (sL keys list kAllow i).length ≤ c6
  f5 : Kd.F Kd.string W (fun k => k ≠ go) A5 (sK keys list kAllow i).length (sK keys list kAllow i)
  f6 : Kd.F k25 W (fun k => k ≠ go) A6 (sL keys list kAllow i).length (sL keys list kAllow i)
  fd3 : Kd.F Kd.string W (fun k => k ≠ go) Ad dk.length dk
  fd4 : Kd.F k25 W (fun k => k ≠ go) Bd dl.length dl
  f3 : Kd.F Kd.string W (fun k => k ≠ go) A3 keys.length keys
  f4 : Kd.F k25 W (fun k => k ≠ go) A4 list.length list
  ld3 : dk.length ≤ cd
  ld4 : dl.length ≤ dd
def denT9 : Bool × List (List Nat × List Nat) := (true, [([], []), ([], []), ([1], [1]), ([], []), ([2, 3], [2, 3]), ([4], [4]), ([], []), ([6], [6]), ([], []), ([7, 8], [7, 8]), ([9], [9]), ([0, 5, 10], [0, 5, 10]), ([11, 11, 0, 1, 2, 3, 4, 5, 6, 7, 8, 9, 10, 11], [11])])
def denB9 : List Nat := [0, 0, 2, 0, 14, 30, 0, 64, 0, 448, 960, 2047, 4095]
theorem denTab9 : rtab .any (opsOf Tryd.f5 9) = denT9 := by kernel_rfl
theorem denBits9 : waitsOk denT9.2 denB9 = true := by kernel_rfl
section
variable {w : World} {kd n : Int} {t : ByteArray} {A3 : Option Addr} {c3 : Nat} {keys : List ByteArray} {A4 : Option Addr} {c4 : Nat} {list : List JS} {Ad : Option Addr} {cd : Nat} {dk : List ByteArray} {Bd : Option Addr} {dd : Nat} {dl : List JS} {gd go i : Nat} {A5 : Option Addr} {c5 : Nat} {A6 : Option Addr} {c6 : Nat} {W : World}
theorem DInv.drew (h : DInv w kd n t A3 c3 keys A4 c4 list Ad cd dk Bd dd dl gd go i A5 c5 A6 c6 W) : DInv w kd n t A3 c3 keys A4 c4 list Ad cd dk Bd dd dl gd go i A5 c5 A6 c6 W.drew :=
  { i1 := h.i1, gd1 := h.gd1, go1 := h.go1, go2 := h.go2, bel := h.bel.drew, bc := h.bc, bd := h.bd, bo := h.bo, l5 := h.l5, l6 := h.l6, f5 := Kd.F_drew h.f5, f6 := Kd.F_drew h.f6, fd3 := Kd.F_drew h.fd3, fd4 := Kd.F_drew h.fd4, f3 := Kd.F_drew h.f3, f4 := Kd.F_drew h.f4, ld3 := h.ld3, ld4 := h.ld4 }
theorem DInv.put (h : DInv w kd n t A3 c3 keys A4 c4 list Ad cd dk Bd dd dl gd go i A5 c5 A6 c6 W) (h1 : i < keys.length) {x : ByteArray} {y : JS} (hs : mPairs keys list kAllow (i + 1) = mPairs keys list kAllow i ++ [(x, y)]) {W7 : World} (hb : Below W.heap.size W W7) {A B : Option Addr} {c d : Nat}
    (h9 : Kd.F Kd.string W7 (fun k => k ≠ go ∨ W.heap.size ≤ k) A (sK keys list kAllow i ++ [x]).length (sK keys list kAllow i ++ [x])) (hc9 : (sK keys list kAllow i ++ [x]).length ≤ c) (h10 : Kd.F k25 W7 (fun k => k ≠ go ∨ W.heap.size ≤ k) B (sL keys list kAllow i ++ [y]).length (sL keys list kAllow i ++ [y])) (hc10 : (sL keys list kAllow i ++ [y]).length ≤ d) :
    DInv w kd n t A3 c3 keys A4 c4 list Ad cd dk Bd dd dl gd go (i + 1) A c B d (putWrites W7 go (.int .i64 5) (.int .i64 0) (.string ⟨#[]⟩) (.slice A (sK keys list kAllow i ++ [x]).length c) (.slice B (sL keys list kAllow i ++ [y]).length d)) := by
  have g2 := h.go2
  have g1 := h.go1
  have g0 := h.gd1
  have hok : ∀ k, (k ≠ go ∨ W.heap.size ≤ k) → k ≠ go := fun k hk => by rcases hk with hk | hk <;> omega
  have hid : ∀ k : Nat, k ≠ go → k ≠ go := fun _ hk => hk
  have eK : sK keys list kAllow (i + 1) = sK keys list kAllow i ++ [x] := by simp [sK, mK, hs]
  have eL : sL keys list kAllow (i + 1) = sL keys list kAllow i ++ [y] := by simp [sL, mL, hs]
  have hz := hb.size
  refine { i1 := h1, gd1 := g0, go1 := g1, go2 := ?_, bel := ?_, bc := ?_, bd := ?_, bo := ?_, l5 := ?_, l6 := ?_, f5 := ?_, f6 := ?_, fd3 := ?_, fd4 := ?_, f3 := ?_, f4 := ?_, ld3 := h.ld3, ld4 := h.ld4 }
  · rw [putWrites_size]; omega
  · exact putWrites_below (h.bel.trans (hb.mono h.bel.size)) (by omega) _ _ _ _ _
  · exact putWrites_far (blk_below h.bc hb) (by omega) _ _ _ _ _
  · exact putWrites_far (blk_below h.bd hb) (by omega) _ _ _ _ _
  · rw [eK, eL]; exact putWrites_blk (blk_below h.bo hb) _ _ _ _ _
  · rw [eK]; exact hc9
  · rw [eL]; exact hc10
  · rw [eK]; exact putWrites_F (Kd.F_mono h9 hok) hid _ _ _ _ _
  · rw [eL]; exact putWrites_F (Kd.F_mono h10 hok) hid _ _ _ _ _
  · exact putWrites_F (Kd.F_below h.fd3 hb) hid _ _ _ _ _
  · exact putWrites_F (Kd.F_below h.fd4 hb) hid _ _ _ _ _
  · exact putWrites_F (Kd.F_below h.f3 hb) hid _ _ _ _ _
  · exact putWrites_F (Kd.F_below h.f4 hb) hid _ _ _ _ _
end
theorem kAllow_list : kAllow.toList = [97, 108, 108, 111, 119] := by rw [ByteArray.toList_eq]; rfl
theorem e_small (x : JS) (ho : Okay2 x) (key : ByteArray) (i : Nat) : ∀ y ∈ mL x.f3 x.f4 key i, y.f4.length ≤ 1000000 := fun y hy => mL_small x ho key i [] (by simp) y (List.mem_append_left _ hy)
set_option linter.unusedSimpArgs false in
set_option maxRecDepth 100000 in
set_option maxHeartbeats 8000000 in
theorem aclDenies_calls (x : JS) (server : ByteArray) (A3 : Option Addr) (c3 : Nat) (A4 : Option Addr) (c4 : Nat) (w : World) (hT : Tabs w)
    (hr3 : Kd.C Kd.string w A3 x.f3.length x.f3) (hc3 : x.f3.length ≤ c3) (hr4 : Kd.C k25 w A4 x.f4.length x.f4) (hc4 : x.f4.length ≤ c4) :
    Calls Tryd.prog 5 #[.agg #[.int .i64 x.f0, .int .i64 x.f1, .string x.f2, .slice A3 x.f3.length c3, .slice A4 x.f4.length c4], .string server] w fun e w' => e = .returned (.bool true) ∧ Below w.heap.size w w' := by
  obtain ⟨Ks, b, hsm, hok⟩ := small_total x
  have HSm := Lib.hid (fun W (hb : Below w.heap.size w W) => agoralaw36_small.calls Ks x.f0 x.f1 x.f2 A3 c3 x.f3 A4 c4 x.f4 b W (Kd.C_below hr3 hb) hc3 (Kd.C_below hr4 hb) hc4 hsm)
  have H1 := Lib.hid (CAt.first w x.f0 x.f1 x.f2 A3 x.f3.length c3 A4 x.f4.length c4)
  go_enter Tryd.func5, Tryd.ntmps5
  go_wp2_with fail
  refine (HSm.out _ H1.out.1).mono ?_
  rintro e w2 ⟨rfl, hb2⟩
  have H2 := Lib.hid (H1.out.below hb2)
  clear H1 HSm hb2 hsm
  obtain ⟨p0, p1, p2, p3, p4, p5⟩ := H2.out.2.cells
  cases b with
  | false =>
    clear hok
    go_wp2
    go_ret
    exact ⟨rfl, H2.out.1⟩
  | true =>
  have hN := hok rfl
  have ho := hN.two
  clear hok
  by_cases h5 : x.f0 = 5
  rotate_left
  · have b5 : (x.f0 != 5) = true := by simp [h5]
    go_wp2
    go_ret
    exact ⟨rfl, H2.out.1⟩
  have b5 : (x.f0 != 5) = false := by simp [h5]
  have H5 := Lib.hid h5
  clear h5
  obtain ⟨Kg, g, hg, hgl⟩ := Good_f x (hN.less (by omega))
  have HG := Lib.hid (fun W (hb : Below w.heap.size w W) => agoraref01_Good.calls Kg x.f0 x.f1 x.f2 A3 c3 x.f3 A4 c4 x.f4 g W (Kd.C_below hr3 hb) hc3 (Kd.C_below hr4 hb) hc4 hg)
  go_wp2_with fail
  refine (HG.out _ H2.out.1).mono ?_
  rintro e w3 ⟨rfl, hb3⟩
  have H3 := Lib.hid (H2.out.below hb3)
  clear H2 HG hb3 hg p0 p1 p2 p3 p4 p5
  obtain ⟨p0, p1, p2, p3, p4, p5⟩ := H3.out.2.cells
  cases g with
  | false =>
    go_wp2
    go_ret
    exact ⟨rfl, H3.out.1⟩
  | true =>
  by_cases hv : 200 < server.size
  · have b7 : decide ((200 : Int) < (server.size : Int)) = true := decide_eq_true (by omega)
    go_wp2
    go_ret
    exact ⟨rfl, H3.out.1⟩
  have b7 : decide ((200 : Int) < (server.size : Int)) = false := decide_eq_false (by omega)
  have HLen := Lib.hid (hgl rfl H5.out)
  obtain ⟨Kb, hboth⟩ := both_allowed x.f0 x.f1 x.f2 x.f3 x.f4 server (by omega) (by have := ho.1.1; omega) (fun key y hy => by have := okay_value x ho key y hy; omega)
  have hin := (hboth Kb (Nat.le_refl _)).1
  obtain ⟨Kw, hkw⟩ := awake_true
  have HAl := Lib.hid (fun W (hb : Below w.heap.size w W) => acl_Allowed.calls Kb x.f0 x.f1 x.f2 A3 c3 x.f3 A4 c4 x.f4 server _ W (hT.below hb) (Kd.C_below hr3 hb) hc3 (Kd.C_below hr4 hb) hc4 hin)
  have HAw := Lib.hid (fun W (hb : Below w.heap.size w W) => agoralaw36_awake.calls Kw true W (hT.below hb) (hkw Kw (Nat.le_refl _)))
  have HSv := Lib.hid (fun W => agoraref04_Server.calls (server.size + 2) server (isServer server) W (server_f server (by omega) _ (Nat.le_refl _)))
  obtain ⟨Ld, hLd⟩ : ∃ Ld, Ld = aclList (aclValue x.f0 x.f3 x.f4 kDeny) := ⟨_, rfl⟩
  have hDen := list_small x ho kDeny
  rw [← hLd] at hDen
  have hLl : Ld.length ≤ 100 := by rw [hLd]; exact aclList_len _
  have HMd := Lib.hid (fun W (hb : Below w.heap.size w W) => more_calls 1000000 x.f0 x.f1 x.f2 A3 c3 x.f3 A4 c4 x.f4 kDeny server Ld W (Kd.C_below hr3 hb) hc3 (Kd.C_below hr4 hb) hc4 (by have := ho.1.1; omega) (by have := ho.1.2.1; omega) hDen (by omega))
  have HOu := Lib.hid (fun (ks : List ByteArray) (ls : List JS) (hks : ks.length ≤ 1000000) (hls : ∀ y ∈ ls, y.f4.length ≤ 1000000) v (hv : allowedB 5 ks ls server = v) W A c B d (hb : Below w.heap.size w W)
      (h3 : Kd.C Kd.string W A ks.length ks) (hc : ks.length ≤ c) (h4 : Kd.C k25 W B ls.length ls) (hd : ls.length ≤ d) =>
    (show Calls Tryd.prog 7 #[.agg #[.int .i64 5, .int .i64 0, .string ⟨#[]⟩, .slice A ks.length c, .slice B ls.length d], .string server] W fun e w' => e = .returned (.bool v) ∧ Below W.heap.size W w' from by
      obtain ⟨K2, h2⟩ := both_allowed 5 0 ⟨#[]⟩ ks ls server (by omega) hks (fun k y hy => hls y (value_mem _ _ _ _ _ hy))
      exact acl_Allowed.calls K2 5 0 ⟨#[]⟩ A c _ B d _ server v W (hT.below hb) h3 hc h4 hd (by rw [← hv]; exact (h2 K2 (Nat.le_refl _)).1)))
  have hvd : allowedB 5 (mK x.f3 x.f4 kDeny x.f3.length ++ [kDeny]) (mL x.f3 x.f4 kDeny x.f3.length ++ [strsJ ([server] ++ Ld)]) server = false := deny_self x.f3 x.f4 server x.f3.length (Nat.min_le_left _ _) (server_self server) (by omega) Ld
  have hve : allowedB 5 (mK x.f3 x.f4 kAllow x.f3.length) (mL x.f3 x.f4 kAllow x.f3.length) server = false := less_allow x.f3 x.f4 server x.f3.length (Nat.min_le_left _ _)
  have hks := mK_small x ho kDeny
  have hls := mL_small x ho kDeny x.f3.length ([server] ++ Ld) (by simp; omega)
  have hke : (mK x.f3 x.f4 kAllow x.f3.length).length ≤ 1000000 := by have := mK_small x ho kAllow; simp only [List.length_append] at this; omega
  have hle := e_small x ho kAllow x.f3.length
  have HVE := Lib.hid (HOu.out (mK x.f3 x.f4 kAllow x.f3.length) (mL x.f3 x.f4 kAllow x.f3.length) hke hle _ hve)
  have HVD := Lib.hid (HOu.out (mK x.f3 x.f4 kDeny x.f3.length ++ [kDeny]) (mL x.f3 x.f4 kDeny x.f3.length ++ [strsJ ([server] ++ Ld)]) hks hls _ hvd)
  have hinS : allowedB x.f0 x.f3 x.f4 server = true → isServer server = true := fun h => by unfold allowedB at h; rw [Bool.and_eq_true] at h; exact h.1
  have HIS := Lib.hid hinS
  have hk : x.f3.length ≤ 100 := ho.1.1
  have hF3 := Lib.hid (Kd.C_F Kd.heap_string hr3); have hF4 := Lib.hid (Kd.C_F k25_heap hr4)
  clear hboth hin hkw hDen hvd hve hks hls hke hle hinS hLd HOu hgl hr3 hr4 hT hN ho H5
  generalize allowedB x.f0 x.f3 x.f4 server = inn at HAl HIS
  go_wp2_with fail
  refine (HMd.out _ H3.out.1).mono ?_
  rintro e w4 ⟨Ad, cd, Bd, dd, rfl, hb4, g3, hcd, g4, hdd⟩
  have H4 := Lib.hid (H3.out.below hb4)
  clear H3 HMd p0 p1 p2 p3 p4 p5
  generalize mK x.f3 x.f4 kDeny x.f3.length ++ [kDeny] = dk at *
  generalize mL x.f3 x.f4 kDeny x.f3.length ++ [strsJ ([server] ++ Ld)] = dl at *
  have hz4 : w.heap.size < w4.heap.size := blk_lt H4.out.2
  have hD : DInv w x.f0 x.f1 x.f2 A3 c3 x.f3 A4 c4 x.f4 Ad cd dk Bd dd dl w4.heap.size (w4.heap.size + 1) 0 none 0 none 0 ((w4.alloc (.cells #[.int .i64 5, .int .i64 0, .string ⟨#[]⟩, .slice Ad dk.length cd, .slice Bd dl.length dd] 25)).alloc (.cells #[.int .i64 5, .int .i64 0, .string ⟨#[]⟩, .slice none 0 0, .slice none 0 0] 25)) := by
    have hsz : (w4.alloc (.cells #[.int .i64 5, .int .i64 0, .string ⟨#[]⟩, .slice Ad dk.length cd, .slice Bd dl.length dd] 25)).heap.size = w4.heap.size + 1 := by simp
    have hlt : ∀ (α : Type) (d : Kd α) (A : Option Addr) (m : Nat) (xs : List α), Kd.F d w4 (fun k => k < w4.heap.size) A m xs → Kd.F d ((w4.alloc (.cells #[.int .i64 5, .int .i64 0, .string ⟨#[]⟩, .slice Ad dk.length cd, .slice Bd dl.length dd] 25)).alloc (.cells #[.int .i64 5, .int .i64 0, .string ⟨#[]⟩, .slice none 0 0, .slice none 0 0] 25)) (fun k => k ≠ w4.heap.size + 1) A m xs := fun α d A m xs h =>
      Kd.F_mono (Kd.F_alloc (Kd.F_alloc h _) _) (fun k hk => by omega)
    have hbn := blk_new (w4.alloc (.cells #[.int .i64 5, .int .i64 0, .string ⟨#[]⟩, .slice Ad dk.length cd, .slice Bd dl.length dd] 25)) (.cells #[.int .i64 5, .int .i64 0, .string ⟨#[]⟩, .slice none 0 0, .slice none 0 0] 25)
    rw [hsz] at hbn
    refine { i1 := Nat.zero_le _, gd1 := hz4, go1 := Nat.lt_succ_self _, go2 := by simp, bel := (H4.out.1.alloc H4.out.1.size _).alloc (by simp; omega) _, bc := blk_alloc (blk_alloc H4.out.2 _) _, bd := blk_alloc (blk_new _ _) _, bo := hbn, l5 := Nat.le_refl _, l6 := Nat.le_refl _, f5 := Kd.F_nil _ _ _, f6 := Kd.F_nil _ _ _, fd3 := hlt _ _ _ _ _ (Kd.C_F Kd.heap_string g3), fd4 := hlt _ _ _ _ _ (Kd.C_F k25_heap g4), f3 := hlt _ _ _ _ _ (Kd.F_mono (Kd.F_below hF3.out H4.out.1) (fun k hk => by omega)), f4 := hlt _ _ _ _ _ (Kd.F_mono (Kd.F_below hF4.out H4.out.1) (fun k hk => by omega)), ld3 := hcd, ld4 := hdd }
  have HM := Lib.hid hD
  clear hD hcd hdd g3 g4 hb4 hF3 hF4
  go_wp2_with fail
  generalize (w4.alloc (.cells #[.int .i64 5, .int .i64 0, .string ⟨#[]⟩, .slice Ad dk.length cd, .slice Bd dl.length dd] 25)).alloc (.cells #[.int .i64 5, .int .i64 0, .string ⟨#[]⟩, .slice none 0 0, .slice none 0 0] 25) = w5 at HM ⊢
  have hgo2 : w4.heap.size + 1 = w4.heap.size + 1 := rfl
  generalize hgoE : w4.heap.size + 1 = go at HM hgo2 ⊢
  generalize w4.heap.size = gd at HM hz4 hgoE ⊢
  clear hgo2 hgoE H4 w4
  go_loopw [7] (fun vi wr => ∃ (i : Nat) (A5 : Option Addr) (c5 : Nat) (A6 : Option Addr) (c6 : Nat), vi = .int .i64 i ∧ Hid (DInv w x.f0 x.f1 x.f2 A3 c3 x.f3 A4 c4 x.f4 Ad cd dk Bd dd dl gd go i A5 c5 A6 c6 wr)) (fun vi _ => x.f3.length - (intOf vi).toNat)
  case atStart => exact ⟨0, none, 0, none, 0, rfl, HM⟩
  case round =>
    obtain ⟨i, A5, c5, A6, c6, rfl, HI⟩ := hrel
    clear HM
    have c0 : wr.cell? ⟨w.heap.size, 0, none⟩ = some (.int .i64 x.f0) := (blk_cell HI.out.bc 0).trans rfl
    have c1 : wr.cell? ⟨w.heap.size, 1, none⟩ = some (.int .i64 x.f1) := (blk_cell HI.out.bc 1).trans rfl
    have c2 : wr.cell? ⟨w.heap.size, 2, none⟩ = some (.string x.f2) := (blk_cell HI.out.bc 2).trans rfl
    have c3' : wr.cell? ⟨w.heap.size, 3, none⟩ = some (.slice A3 x.f3.length c3) := (blk_cell HI.out.bc 3).trans rfl
    have c4' : wr.cell? ⟨w.heap.size, 4, none⟩ = some (.slice A4 x.f4.length c4) := (blk_cell HI.out.bc 4).trans rfl
    by_cases h1 : i < x.f3.length
    · have b1 : decide ((i : Int) < (x.f3.length : Int)) = true := decide_eq_true (by omega)
      have h2 : i < x.f4.length := by have := HLen.out; omega
      obtain ⟨ad, had, g0⟩ := Kd.at_string (Kd.F_now HI.out.f3) (i : Int) (by omega) (by omega)
      subst had
      have hrd : rdOf ByteArray.empty x.f3 (i : Int) = x.f3[i] := by simp [rdOf, h1]
      rw [hrd, Int.toNat_natCast] at g0
      clear hrd
      have hsuc := mPairs_succ x.f3 x.f4 kAllow i h1 h2
      by_cases he : x.f3[i].toList = kAllow.toList
      · have b3 : (x.f3[i].toList != kAllow.toList) = false := by simp [he]
        have b3' : (x.f3[i].toList == kAllow.toList) = true := by simp [he]
        rw [if_pos he, List.append_nil] at hsuc
        have HI2 : Hid (DInv w x.f0 x.f1 x.f2 (some ad) c3 x.f3 A4 c4 x.f4 Ad cd dk Bd dd dl gd go (i + 1) A5 c5 A6 c6 wr) := by
          obtain ⟨q1, q2, q3, q4, q5, q6, q7, q8, q9, q10, q11, q12, q13, q14, q15, q16, q17, q18⟩ := HI.out
          exact Lib.hid (by constructor <;> first | assumption | omega | (simp only [sK, sL, mK, mL] at *; rw [hsuc]; assumption))
        clear HI hsuc he
        rw [kAllow_list] at b3 b3'
        generalize x.f3[i] = a at g0 b3 b3'
        go_wp2
        go_roundw
        case rel => exact ⟨i + 1, A5, c5, A6, c6, by simp, HI2⟩
        case measure => simp [intOf]; omega
      · have b3 : (x.f3[i].toList != kAllow.toList) = true := by simp [he]
        have b3' : (x.f3[i].toList == kAllow.toList) = false := by simp [he]
        rw [if_neg he] at hsuc
        obtain ⟨ad4, cs4, had4, hcl, hK4, hcc4, -⟩ := Kd.F_get HI.out.f4 z25 (i : Int) (by omega) (by omega)
        subst had4
        have hgd : x.f4.getD (i : Int).toNat z25 = x.f4[i] := by simp [h2]
        rw [hgd] at hK4
        clear hgd
        obtain ⟨A7, c7, A8, c8, rfl, l7, f7, l8, f8⟩ := k25_openF hK4
        rw [Int.toNat_natCast] at hcc4
        have d0 : wr.cell? (ad4.add (i * 5)) = some (.int .i64 x.f4[i].f0) := hcc4 0 _ rfl
        have d1 : wr.cell? ⟨(ad4.add (i * 5)).block, (ad4.add (i * 5)).off + 1, none⟩ = some (.int .i64 x.f4[i].f1) := by rw [← add_field _ _ 1 (by omega)]; exact hcc4 1 _ rfl
        have d2 : wr.cell? ⟨(ad4.add (i * 5)).block, (ad4.add (i * 5)).off + 2, none⟩ = some (.string x.f4[i].f2) := by rw [← add_field _ _ 2 (by omega)]; exact hcc4 2 _ rfl
        have d3 : wr.cell? ⟨(ad4.add (i * 5)).block, (ad4.add (i * 5)).off + 3, none⟩ = some (.slice A7 x.f4[i].f3.length c7) := by rw [← add_field _ _ 3 (by omega)]; exact hcc4 3 _ rfl
        have d4 : wr.cell? ⟨(ad4.add (i * 5)).block, (ad4.add (i * 5)).off + 4, none⟩ = some (.slice A8 x.f4[i].f4.length c8) := by rw [← add_field _ _ 4 (by omega)]; exact hcc4 4 _ rfl
        have hml := mPairs_len x.f3 x.f4 kAllow i
        have hP := Put_F (fun k => k ≠ go) 5 0 ⟨#[]⟩ A5 c5 (sK x.f3 x.f4 kAllow i) A6 c6 (sL x.f3 x.f4 kAllow i) x.f3[i] x.f4[i] A7 c7 A8 c8 wr.drew (Kd.F_now (Kd.F_drew HI.out.f5)) HI.out.l5 (Kd.F_drew HI.out.f6) HI.out.l6 (by simp only [sK, List.length_map]; omega) (by simp only [sL, List.length_map]; omega) (Kd.F_drew f7) l7 (Kd.F_drew f8) l8
        have HP := Lib.hid hP
        clear hP hcc4 hK4 hcl f7 f8 l7 l8 he
        rw [kAllow_list] at b3 b3'
        generalize x.f4[i] = y at *
        generalize x.f3[i] = a at *
        have HSS : MoreS w.heap.size go x.f0 x.f1 x.f2 ad c3 x.f3 ad4 c4 x.f4 A5 (sK x.f3 x.f4 kAllow i).length c5 A6 (sL x.f3 x.f4 kAllow i).length c6 i a y A7 c7 A8 c8 wr.drew := ⟨HI.out.bo, HI.out.bc, g0, d0, d1, d2, d3, d4⟩
        go_wp2_with fail
        refine start_ (n := 13) (S := MoreS w.heap.size go x.f0 x.f1 x.f2 ad c3 x.f3 ad4 c4 x.f4 A5 (sK x.f3 x.f4 kAllow i).length c5 A6 (sL x.f3 x.f4 kAllow i).length c6 i a y A7 c7 A8 c8) (ds := [12]) #[false, false, false, false, false, false, false, false, false, false, false, false, false] (by kernel_rfl) rfl rfl HSS (fun hHeld => ?_); refine with_tabW denTab9 denBits9 (fun HT_ HW_ => ?_)
        have HD := Lib.hid (HI.out.drew)
        generalize wr.drew = w5 at HD HP hHeld ⊢
        clear HI c0 c1 c2 c3' c4' g0 d0 d1 d2 d3 d4 HSS
        have i0 : (0 : Int) ≤ (i : Int) := by omega
        have i1 : (i : Int) < (x.f3.length : Int) := by omega
        have i2 : (i : Int) < (x.f4.length : Int) := by omega
        have hf4 : x.f4.length ≤ 9223372036854775807 := by have := HLen.out; omega
        have hf3 : x.f3.length ≤ 9223372036854775807 := by omega
        refine take_ (i := 0) (N := some 43) (v := ?_) (a' := ?_) #[true, false, false, false, false, false, false, false, false, false, false, false, false] rfl rfl (take_ofW HT_.out HW_.out (by kernel_rfl)) (fun _ _ _ h => h) (Or.inl ⟨by rfl, ?_⟩) hHeld ?_ ?_
        rotate_left
        · intro w' s0
          have s00 : w'.cell? ⟨go, 0, none⟩ = some (.int .i64 5) := (blk_cell s0.bo 0).trans rfl
          have s01 : w'.cell? ⟨go, 1, none⟩ = some (.int .i64 0) := (blk_cell s0.bo 1).trans rfl
          have s02 : w'.cell? ⟨go, 2, none⟩ = some (.string ⟨#[]⟩) := (blk_cell s0.bo 2).trans rfl
          have s03 : w'.cell? ⟨go, 3, none⟩ = some (.slice A5 (sK x.f3 x.f4 kAllow i).length c5) := (blk_cell s0.bo 3).trans rfl
          have s04 : w'.cell? ⟨go, 4, none⟩ = some (.slice A6 (sL x.f3 x.f4 kAllow i).length c6) := (blk_cell s0.bo 4).trans rfl
          go_simp
          with_reducible rfl
        rotate_left
        · simp only [Act.put, List.setIfInBounds_toArray, List.set_cons_zero, List.set_cons_succ, i64_w, i32_w]
          rfl
        refine pure_ (i := 1) (N := some 44) (v := ?_) (a' := ?_) #[true, true, false, false, false, false, false, false, false, false, false, false, false] rfl rfl (any_of HT_.out (by kernel_rfl)) (fun _ _ _ h => h) (Or.inl ⟨by rfl, ?_⟩) ?_ ?_
        rotate_left
        · intro w'
          go_simp
          with_reducible rfl
        rotate_left
        · simp only [Act.put, List.setIfInBounds_toArray, List.set_cons_zero, List.set_cons_succ, i64_w, i32_w]
          rfl
        refine take_ (i := 2) (N := some 45) (v := ?_) (a' := ?_) #[true, true, true, false, false, false, false, false, false, false, false, false, false] rfl rfl (take_ofW HT_.out HW_.out (by kernel_rfl)) (fun _ _ _ h => h) (Or.inl ⟨by rfl, ?_⟩) hHeld ?_ ?_
        rotate_left
        · intro w' s0
          have s03 : w'.cell? ⟨w.heap.size, 3, none⟩ = some (.slice (some ad) x.f3.length c3) := (blk_cell s0.bc 3).trans rfl
          go_simp
          with_reducible rfl
        rotate_left
        · simp only [Act.put, List.setIfInBounds_toArray, List.set_cons_zero, List.set_cons_succ, i64_w, i32_w]
          rfl
        refine pure_ (i := 3) (N := some 46) (v := ?_) (a' := ?_) #[true, true, true, true, false, false, false, false, false, false, false, false, false] rfl rfl (any_of HT_.out (by kernel_rfl)) (fun _ _ _ h => h) (Or.inl ⟨by rfl, ?_⟩) ?_ ?_
        rotate_left
        · intro w'
          go_simp
          with_reducible rfl
        rotate_left
        · simp only [Act.put, List.setIfInBounds_toArray, List.set_cons_zero, List.set_cons_succ, i64_w, i32_w]
          rfl
        refine pure_ (i := 4) (N := some 47) (v := ?_) (a' := ?_) #[true, true, true, true, true, false, false, false, false, false, false, false, false] rfl rfl (any_of HT_.out (by kernel_rfl)) (fun _ _ _ h => h) (Or.inl ⟨by rfl, ?_⟩) ?_ ?_
        rotate_left
        · intro w'
          go_simp
          with_reducible rfl
        rotate_left
        · simp only [Act.put, List.setIfInBounds_toArray, List.set_cons_zero, List.set_cons_succ, i64_w, i32_w]
          rfl
        refine take_ (i := 5) (N := some 48) (v := ?_) (a' := ?_) #[true, true, true, true, true, true, false, false, false, false, false, false, false] rfl rfl (take_ofW HT_.out HW_.out (by kernel_rfl)) (fun _ _ _ h => h) (Or.inl ⟨by rfl, ?_⟩) hHeld ?_ ?_
        rotate_left
        · intro w' s0
          have s03 := s0.k0
          go_simp
          with_reducible rfl
        rotate_left
        · simp only [Act.put, List.setIfInBounds_toArray, List.set_cons_zero, List.set_cons_succ, i64_w, i32_w]
          rfl
        refine pure_ (i := 6) (N := some 49) (v := ?_) (a' := ?_) #[true, true, true, true, true, true, true, false, false, false, false, false, false] rfl rfl (any_of HT_.out (by kernel_rfl)) (fun _ _ _ h => h) (Or.inl ⟨by rfl, ?_⟩) ?_ ?_
        rotate_left
        · intro w'
          go_simp
          with_reducible rfl
        rotate_left
        · simp only [Act.put, List.setIfInBounds_toArray, List.set_cons_zero, List.set_cons_succ, i64_w, i32_w]
          rfl
        refine take_ (i := 7) (N := some 50) (v := ?_) (a' := ?_) #[true, true, true, true, true, true, true, true, false, false, false, false, false] rfl rfl (take_ofW HT_.out HW_.out (by kernel_rfl)) (fun _ _ _ h => h) (Or.inl ⟨by rfl, ?_⟩) hHeld ?_ ?_
        rotate_left
        · intro w' s0
          have s03 : w'.cell? ⟨w.heap.size, 4, none⟩ = some (.slice (some ad4) x.f4.length c4) := (blk_cell s0.bc 4).trans rfl
          go_simp
          with_reducible rfl
        rotate_left
        · simp only [Act.put, List.setIfInBounds_toArray, List.set_cons_zero, List.set_cons_succ, i64_w, i32_w]
          rfl
        refine pure_ (i := 8) (N := some 51) (v := ?_) (a' := ?_) #[true, true, true, true, true, true, true, true, true, false, false, false, false] rfl rfl (any_of HT_.out (by kernel_rfl)) (fun _ _ _ h => h) (Or.inl ⟨by rfl, ?_⟩) ?_ ?_
        rotate_left
        · intro w'
          go_simp
          with_reducible rfl
        rotate_left
        · simp only [Act.put, List.setIfInBounds_toArray, List.set_cons_zero, List.set_cons_succ, i64_w, i32_w]
          rfl
        refine pure_ (i := 9) (N := some 52) (v := ?_) (a' := ?_) #[true, true, true, true, true, true, true, true, true, true, false, false, false] rfl rfl (any_of HT_.out (by kernel_rfl)) (fun _ _ _ h => h) (Or.inl ⟨by rfl, ?_⟩) ?_ ?_
        rotate_left
        · intro w'
          go_simp
          with_reducible rfl
        rotate_left
        · simp only [Act.put, List.setIfInBounds_toArray, List.set_cons_zero, List.set_cons_succ, i64_w, i32_w]
          rfl
        refine take_ (i := 10) (N := some 53) (v := ?_) (a' := ?_) #[true, true, true, true, true, true, true, true, true, true, true, false, false] rfl rfl (take_ofW HT_.out HW_.out (by kernel_rfl)) (fun _ _ _ h => h) (Or.inl ⟨by rfl, ?_⟩) hHeld ?_ ?_
        rotate_left
        · intro w' s0
          have s00 := s0.d0
          have s01 := s0.d1
          have s02 := s0.d2
          have s03 := s0.d3
          have s04 := s0.d4
          go_simp
          with_reducible rfl
        rotate_left
        · simp only [Act.put, List.setIfInBounds_toArray, List.set_cons_zero, List.set_cons_succ, i64_w, i32_w]
          rfl
        refine one_ (i := 11) (N := some 54) #[true, true, true, true, true, true, true, true, true, true, true, true, false] rfl rfl (one_of HT_.out (by kernel_rfl)) (by decide) (fun K hK => ?_)
        refine goes_ Tryd.func13 (by kernel_rfl) rfl #[.agg #[.int .i64 5, .int .i64 0, .string ⟨#[]⟩, .slice A5 (sK x.f3 x.f4 kAllow i).length c5, .slice A6 (sL x.f3 x.f4 kAllow i).length c6], .string a, .agg #[.int .i64 y.f0, .int .i64 y.f1, .string y.f2, .slice A7 y.f3.length c7, .slice A8 y.f4.length c8]] (by rfl) rfl rfl (by (simp only [List.map_toArray, List.map_cons, List.map_nil]); rfl) ?_
        refine HP.out.mono ?_
        rintro e w7 ⟨A9, c9, B9, d9, rfl, hb7, h9, hc9, h10, hc10⟩
        refine ⟨_, rfl, ?_⟩
        have HN := Lib.hid (HD.out.put h1 hsuc hb7 h9 hc9 h10 hc10)
        have hgo := blk_below HD.out.bo hb7
        refine hK.out _ _ (hHeld.below hb7) (fun hHeld => ?_)
        clear hK K h9 h10 hc9 hc10 HP
        refine norm_ (a' := ?_) ?_ ?_
        rotate_left
        · show Act.put _ (some 54) _ = _
          simp only [Act.put, List.setIfInBounds_toArray, List.set_cons_zero, List.set_cons_succ, i64_w, i32_w]
          rfl
        have hs0 : w7.cell? ⟨go, 0, none⟩ = some (.int .i64 5) := (blk_cell hgo 0).trans rfl
        have hs1 : w7.cell? ⟨go, 1, none⟩ = some (.int .i64 0) := (blk_cell hgo 1).trans rfl
        have hs2 : w7.cell? ⟨go, 2, none⟩ = some (.string ⟨#[]⟩) := (blk_cell hgo 2).trans rfl
        have hs3 : w7.cell? ⟨go, 3, none⟩ = some (.slice A5 (sK x.f3 x.f4 kAllow i).length c5) := (blk_cell hgo 3).trans rfl
        have hs4 : w7.cell? ⟨go, 4, none⟩ = some (.slice A6 (sL x.f3 x.f4 kAllow i).length c6) := (blk_cell hgo 4).trans rfl
        have hf0 := blk_frozen hgo 0; have hf1 := blk_frozen hgo 1; have hf2 := blk_frozen hgo 2; have hf3 := blk_frozen hgo 3; have hf4 := blk_frozen hgo 4
        refine last_ (i := 12) (N := none) #[true, true, true, true, true, true, true, true, true, true, true, true, true] rfl rfl (one_of HT_.out (by kernel_rfl)) (by decide) (fun K hK => ?_)
        refine skip_ (w1 := putWrites w7 go (.int .i64 5) (.int .i64 0) (.string ⟨#[]⟩) (.slice A9 (sK x.f3 x.f4 kAllow i ++ [a]).length c9) (.slice B9 (sL x.f3 x.f4 kAllow i ++ [y]).length d9)) (by rfl) rfl ?_ ?_
        · go_simp
          rfl
        refine hK.out _ _ ?_
        clear hK K
        refine done_ (by kernel_rfl) ?_
        generalize putWrites w7 go (.int .i64 5) (.int .i64 0) (.string ⟨#[]⟩) (.slice A9 (sK x.f3 x.f4 kAllow i ++ [a]).length c9) (.slice B9 (sL x.f3 x.f4 kAllow i ++ [y]).length d9) = w8 at HN ⊢
        clear hs0 hs1 hs2 hs3 hs4 hf0 hf1 hf2 hf3 hf4 hgo hb7 hHeld HD
        go_wp2
        go_roundw
        case rel => exact ⟨i + 1, A9, c9, B9, d9, by simp, HN⟩
        case measure => simp [intOf]; omega
    · have b1 : decide ((i : Int) < (x.f3.length : Int)) = false := decide_eq_false (by omega)
      have hgt := h1
      obtain rfl : i = x.f3.length := by have := HI.out.i1; omega
      have HV3 := Lib.hid (HI.out.ld3); have HV4 := Lib.hid (HI.out.ld4); have HL5 := Lib.hid HI.out.l5; have HL6 := Lib.hid HI.out.l6
      have HFa := Lib.hid (fun W (hb : Below wr.heap.size wr W) => HVD.out W Ad cd Bd dd (HI.out.bel.trans (hb.mono HI.out.bel.size)) (Kd.C_below (Kd.F_now HI.out.fd3) hb) HV3.out (Kd.C_below (Kd.F_now HI.out.fd4) hb) HV4.out)
      have HFb := Lib.hid (fun W (hb : Below wr.heap.size wr W) => HVE.out W A5 c5 A6 c6 (HI.out.bel.trans (hb.mono HI.out.bel.size)) (Kd.C_below (Kd.F_now HI.out.f5) hb) HL5.out (Kd.C_below (Kd.F_now HI.out.f6) hb) HL6.out)
      have HFc := Lib.hid (fun W (hb : Below wr.heap.size wr W) => HAl.out W (HI.out.bel.trans (hb.mono HI.out.bel.size)))
      have HFw := Lib.hid (fun W (hb : Below wr.heap.size wr W) => HAw.out W (HI.out.bel.trans (hb.mono HI.out.bel.size)))
      have HX := Lib.hid (Below.refl wr.heap.size wr)
      have HB := Lib.hid HI.out.bel
      have BKc := Lib.hid HI.out.bc; have BKd := Lib.hid HI.out.bd; have BKe := Lib.hid HI.out.bo
      clear HI HVD HVE HAl HAw HV3 HV4 HL5 HL6 h1 hgt hz4
      have ek : sK x.f3 x.f4 kAllow x.f3.length = mK x.f3 x.f4 kAllow x.f3.length := rfl
      have el : sL x.f3 x.f4 kAllow x.f3.length = mL x.f3 x.f4 kAllow x.f3.length := rfl
      rw [ek, el] at BKe
      clear ek el
      generalize mK x.f3 x.f4 kAllow x.f3.length = ek at *
      generalize mL x.f3 x.f4 kAllow x.f3.length = el at *
      have p0 : wr.cell? ⟨gd, 0, none⟩ = some (.int .i64 5) := (blk_cell BKd.out 0).trans rfl
      have p1 : wr.cell? ⟨gd, 1, none⟩ = some (.int .i64 0) := (blk_cell BKd.out 1).trans rfl
      have p2 : wr.cell? ⟨gd, 2, none⟩ = some (.string ⟨#[]⟩) := (blk_cell BKd.out 2).trans rfl
      have p3 : wr.cell? ⟨gd, 3, none⟩ = some (.slice Ad dk.length cd) := (blk_cell BKd.out 3).trans rfl
      have p4 : wr.cell? ⟨gd, 4, none⟩ = some (.slice Bd dl.length dd) := (blk_cell BKd.out 4).trans rfl
      go_wp2_with fail
      refine (HFa.out _ HX.out).mono ?_
      rintro e u1 ⟨rfl, hu1⟩
      have HX1 := Lib.hid (HX.out.trans (hu1.mono HX.out.size))
      have BKe1 := Lib.hid (blk_below BKe.out hu1); have BKc1 := Lib.hid (blk_below BKc.out hu1)
      clear p0 p1 p2 p3 p4 BKd HFa HX hu1 BKe BKc c0 c1 c2 c3' c4'
      have p0 : u1.cell? ⟨go, 0, none⟩ = some (.int .i64 5) := (blk_cell BKe1.out 0).trans rfl
      have p1 : u1.cell? ⟨go, 1, none⟩ = some (.int .i64 0) := (blk_cell BKe1.out 1).trans rfl
      have p2 : u1.cell? ⟨go, 2, none⟩ = some (.string ⟨#[]⟩) := (blk_cell BKe1.out 2).trans rfl
      have p3 : u1.cell? ⟨go, 3, none⟩ = some (.slice A5 ek.length c5) := (blk_cell BKe1.out 3).trans rfl
      have p4 : u1.cell? ⟨go, 4, none⟩ = some (.slice A6 el.length c6) := (blk_cell BKe1.out 4).trans rfl
      go_wp2_with fail
      refine (HFb.out _ HX1.out).mono ?_
      rintro e u2 ⟨rfl, hu2⟩
      have HX2 := Lib.hid (HX1.out.trans (hu2.mono HX1.out.size))
      have BKc2 := Lib.hid (blk_below BKc1.out hu2)
      clear p0 p1 p2 p3 p4 BKe1 HFb HX1 hu2 BKc1
      have p0 : u2.cell? ⟨w.heap.size, 0, none⟩ = some (.int .i64 x.f0) := (blk_cell BKc2.out 0).trans rfl
      have p1 : u2.cell? ⟨w.heap.size, 1, none⟩ = some (.int .i64 x.f1) := (blk_cell BKc2.out 1).trans rfl
      have p2 : u2.cell? ⟨w.heap.size, 2, none⟩ = some (.string x.f2) := (blk_cell BKc2.out 2).trans rfl
      have p3 : u2.cell? ⟨w.heap.size, 3, none⟩ = some (.slice A3 x.f3.length c3) := (blk_cell BKc2.out 3).trans rfl
      have p4 : u2.cell? ⟨w.heap.size, 4, none⟩ = some (.slice A4 x.f4.length c4) := (blk_cell BKc2.out 4).trans rfl
      go_wp2_with fail
      refine (HFc.out _ HX2.out).mono ?_
      rintro e u3 ⟨rfl, hu3⟩
      have HX3 := Lib.hid (HX2.out.trans (hu3.mono HX2.out.size))
      clear p0 p1 p2 p3 p4 BKc2 HFc HX2 hu3
      cases inn with
      | true =>
        have hsv := HIS.out rfl
        rw [hsv] at HSv
        clear hsv
        go_wp2_with fail
        refine (HSv.out _).mono ?_
        rintro e u4 ⟨rfl, hu4⟩
        have HX4 := Lib.hid (HX3.out.trans (hu4.below.mono HX3.out.size))
        clear hu4
        go_wp2_with fail
        refine (HFw.out _ HX4.out).mono ?_
        rintro e u5 ⟨rfl, hu5⟩
        have HX5 := Lib.hid (HB.out.trans ((HX4.out.trans (hu5.mono HX4.out.size)).mono HB.out.size))
        clear hu5
        go_wp2
        go_ret
        exact ⟨rfl, HX5.out⟩
      | false =>
        go_wp2_with fail
        refine (HFw.out _ HX3.out).mono ?_
        rintro e u5 ⟨rfl, hu5⟩
        have HX5 := Lib.hid (HB.out.trans ((HX3.out.trans (hu5.mono HX3.out.size)).mono HB.out.size))
        clear hu5
        go_wp2
        go_ret
        exact ⟨rfl, HX5.out⟩
end Go.Proofs.YtcklgalgljmljaaDoor.Q

