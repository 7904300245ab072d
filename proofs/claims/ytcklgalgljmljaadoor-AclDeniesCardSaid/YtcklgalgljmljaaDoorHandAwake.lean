/- HandAwake: a text of this claim's proof, as printed or written, without what the claim does not use. -/
import Derived.WalkKit
import Derived.WalkSpells
import Derived.Lib.Hide
import Derived.BigQuiet
import Derived.Deep.QuietTactic
import Derived.Test.YtcklgalgljmljaaDoorShelf
import Derived.Test.YtcklgalgljmljaaDoorTabs
import Derived.Test.YtcklgalgljmljaaDoorHandPut
import Derived.Test.YtcklgalgljmljaaDoorHandAcl3
import Derived.Test.YtcklgalgljmljaaDoorQx0
import Derived.Test.YtcklgalgljmljaaDoorQx12
import Derived.Test.YtcklgalgljmljaaDoorHandAcl3
import Derived.Test.YtcklgalgljmljaaDoorTabs
namespace Go.Proofs.YtcklgalgljmljaaDoor.Q
open Go.RowKit Go.Proofs.YtcklgalgljmljaaDoorW.PrintWords Go.Proofs.YtcklgalgljmljaaDoorW.PrintLast Go.Proofs.YtcklgalgljmljaaDoorW.PrintMore
def strJ (s : ByteArray) : S25 := ⟨3, 0, s, [], []⟩
def strsJ (l : List ByteArray) : S25 := ⟨4, 0, ⟨#[]⟩, [], l.map strJ⟩
theorem strs_l0 (l : List ByteArray) (hl : l.length ≤ 1000000) : ∀ (m i k : Nat) (acc : List S25), m = l.length - i → i ≤ l.length → acc.length ≤ i → m < k → agoraref01_Strs.l0 k l (i : Int) 4 0 ⟨#[]⟩ acc = some (4, 0, ⟨#[]⟩, [], acc ++ (l.drop i).map strJ)
  | 0, i, k, acc, hm, hi, _, hk => by
    obtain ⟨k, rfl⟩ : ∃ j, k = j + 1 := ⟨k - 1, by omega⟩
    have : i = l.length := by omega
    subst this
    simp [agoraref01_Strs.l0]
  | m + 1, i, k, acc, hm, hi, ha, hk => by
    obtain ⟨k, rfl⟩ : ∃ j, k = j + 1 := ⟨k - 1, by omega⟩
    have hlt : i < l.length := by omega
    have ih := strs_l0 l hl m (i + 1) k (acc ++ [strJ l[i]]) (by omega) (by omega) (by simp; omega) (by omega)
    have hrd : rdOf ByteArray.empty l (i : Int) = l[i] := by simp [rdOf, hlt]
    have hw : wrap64 ((i : Int) + 1) = ((i + 1 : Nat) : Int) := by unfold wrap64; omega
    rw [List.drop_eq_getElem_cons hlt, List.map_cons]
    simp only [agoraref01_Strs.l0, agoraref01_Str.f, Option.bind_some, hrd, hw]
    rw [if_pos (by omega), if_pos (by omega), if_pos (by omega)]
    simp only [strJ] at ih ⊢
    rw [ih]
    simp
theorem strs_f (l : List ByteArray) (hl : l.length ≤ 1000000) : agoraref01_Strs.f (l.length + 1) l = some (4, 0, ⟨#[]⟩, [], l.map strJ) := by
  unfold agoraref01_Strs.f
  simpa using strs_l0 l hl l.length 0 (l.length + 1) [] (by omega) (by omega) (by simp) (by omega)
theorem strs_calls (A : Option Addr) (c : Nat) (l : List ByteArray) (hl : l.length ≤ 1000000) (w : World) (hr : Kd.C Kd.string w A l.length l) (hc : l.length ≤ c) :
    Calls Tryd.prog 27 #[.slice A l.length c] w fun e w' => ∃ A3 c3 A4 c4, e = .returned (.agg #[.int .i64 4, .int .i64 0, .string ⟨#[]⟩, .slice A3 0 c3, .slice A4 l.length c4]) ∧ Below w.heap.size w w' ∧ Kd.F Kd.string w' (fun k => w.heap.size ≤ k) A3 0 [] ∧ Kd.F k25 w' (fun k => w.heap.size ≤ k) A4 l.length (l.map strJ) ∧ l.length ≤ c4 := by
  refine (agoraref01_Strs.calls (l.length + 1) A c l _ _ _ _ _ w hr hc (strs_f l hl)).mono ?_
  rintro e w' ⟨v3, v4, rfl, h3, h4, hb⟩
  obtain ⟨A3, c3, rfl⟩ := Kd.R_slice h3
  obtain ⟨A4, c4, rfl⟩ := Kd.R_slice h4
  have g4 := Kd.R_reads' h4
  have f3 := Kd.R_F (Kd.R_mono (ok' := fun k => w.heap.size ≤ k) (Kd.R_bound h3) (fun k hk => hk.2.1))
  have f4 := Kd.R_F (Kd.R_mono (ok' := fun k => w.heap.size ≤ k) (Kd.R_bound h4) (fun k hk => hk.2.1))
  simp only [List.length_map] at g4 f4 ⊢
  exact ⟨A3, c3, A4, c4, rfl, hb, f3, f4, g4.2.1⟩
theorem C_single (W : World) (s : ByteArray) (g : Nat) (hg : g = W.heap.size) : Kd.C Kd.string (W.alloc (.cells #[.string s] 9)) (some ⟨g, 0, none⟩) 1 [s] := by
  refine Kd.C_of_reads (d := ByteArray.empty) ⟨rfl, by omega, fun _ => ⟨_, rfl, fun j hj => ?_⟩⟩
  obtain rfl : j = 0 := by omega
  rw [show (⟨g, 0, none⟩ : Addr).add 0 = ⟨g, 0, none⟩ from rfl, World.cell?_alloc_at _ _ _ _ hg]
  rfl
theorem C_nil' {α : Type} (d : Kd α) (W : World) (A : Option Addr) : d.C W A 0 [] := ⟨rfl, by omega, fun h => absurd h (by omega)⟩
def listT : Bool × List (List Nat × List Nat) := (true, [([], []), ([], []), ([1], [1]), ([2], [2]), ([0, 3, 3], [0, 3]), ([4, 4, 0, 1, 2, 3, 4], [4])])
def listB : List Nat := [0, 0, 2, 6, 15, 31]
theorem listTab : rtab .any (opsOf Tryd.f25 2) = listT := by kernel_rfl
theorem listBits : waitsOk listT.2 listB = true := by kernel_rfl
set_option linter.unusedSimpArgs false in
set_option maxRecDepth 100000 in
set_option maxHeartbeats 4000000 in
theorem list_calls (allow deny : ByteArray) (w : World) :
    Calls Tryd.prog 25 #[.string allow, .string deny] w fun e w' => ∃ A c B d, e = .returned (.agg #[.int .i64 5, .int .i64 0, .string ⟨#[]⟩, .slice A 2 c, .slice B 2 d]) ∧ Below w.heap.size w w' ∧ Kd.F Kd.string w' (fun k => w.heap.size + 1 ≤ k) A 2 [kAllow, kDeny] ∧ 2 ≤ c ∧ Kd.F k25 w' (fun k => w.heap.size + 1 ≤ k) B 2 [strsJ [allow], strsJ [deny]] ∧ 2 ≤ d := by
  go_enter Tryd.func25, Tryd.ntmps25
  have HS := Lib.hid (strs_calls (some ⟨w.heap.size + 1, 0, none⟩) 1 [allow] (by simp) ((w.alloc (.cells #[.int .i64 0, .int .i64 0, .string ⟨#[]⟩, .slice none 0 0, .slice none 0 0] 25)).alloc (.cells #[.string allow] 9)) (C_single _ _ _ (by simp)) (Nat.le_refl _))
  have hB0 : Below w.heap.size w ((w.alloc (.cells #[.int .i64 0, .int .i64 0, .string ⟨#[]⟩, .slice none 0 0, .slice none 0 0] 25)).alloc (.cells #[.string allow] 9)) := ((Below.refl _ _).alloc (Nat.le_refl _) _).alloc (by simp) _
  have hK0 : ((w.alloc (.cells #[.int .i64 0, .int .i64 0, .string ⟨#[]⟩, .slice none 0 0, .slice none 0 0] 25)).alloc (.cells #[.string allow] 9)).heap[w.heap.size]? = some (.cells #[.int .i64 0, .int .i64 0, .string ⟨#[]⟩, .slice none 0 0, .slice none 0 0] 25) := blk_alloc (blk_new _ _) _
  have HB0 := Lib.hid hB0; have HK0 := Lib.hid hK0; clear hB0 hK0
  go_wp2_with fail
  refine HS.out.mono ?_
  rintro e w2 ⟨A3, c3, A4, c4, rfl, hb2, h3, h4, hc4⟩
  have hz2 : w.heap.size + 1 ≤ w2.heap.size := by have := hb2.size; simp at this; omega
  have hP := Put_F (fun k => w.heap.size + 1 ≤ k) 5 0 ⟨#[]⟩ none 0 [] none 0 [] kAllow (strsJ [allow]) A3 c3 A4 c4 w2 (C_nil' _ _ _) (Nat.le_refl _) (Kd.F_nil _ _ _) (Nat.le_refl _) (by simp) (by simp) (Kd.F_mono h3 (fun k hk => by simp at hk; omega)) (Nat.zero_le _) (Kd.F_mono h4 (fun k hk => by simp at hk; omega)) hc4
  have HP := Lib.hid hP; clear hP h3 h4
  have HB2 := Lib.hid (HB0.out.trans (hb2.mono HB0.out.size)); have HK2 := Lib.hid (blk_below HK0.out hb2)
  clear HB0 HK0 hb2 HS
  go_wp2_with fail
  refine HP.out.mono ?_
  rintro e w3 ⟨A5, c5, A6, c6, rfl, hb3, h5, hc5, h6, hc6⟩
  have HB3 := Lib.hid (HB2.out.trans (hb3.mono HB2.out.size)); have HK3 := Lib.hid (blk_below HK2.out hb3)
  have H5 := Lib.hid (Kd.F_mono (ok' := fun k => w.heap.size + 1 ≤ k) h5 (fun k hk => by rcases hk with hk | hk <;> omega)); have H6 := Lib.hid (Kd.F_mono (ok' := fun k => w.heap.size + 1 ≤ k) h6 (fun k hk => by rcases hk with hk | hk <;> omega))
  have HZ := Lib.hid (Nat.le_trans hz2 hb3.size); clear hz2
  clear HB2 HK2 HP hb3 h5 h6
  have BC := blk_new w3 (.cells #[.int .i64 5, .int .i64 0, .string ⟨#[]⟩, .slice A5 1 c5, .slice A6 1 c6] 25)
  have HB4 := HB3.out.alloc HB3.out.size (.cells #[.int .i64 5, .int .i64 0, .string ⟨#[]⟩, .slice A5 1 c5, .slice A6 1 c6] 25)
  have HK4 := blk_alloc HK3.out (.cells #[.int .i64 5, .int .i64 0, .string ⟨#[]⟩, .slice A5 1 c5, .slice A6 1 c6] 25)
  have HC5 := Kd.F_alloc H5.out (.cells #[.int .i64 5, .int .i64 0, .string ⟨#[]⟩, .slice A5 1 c5, .slice A6 1 c6] 25)
  have HC6 := Kd.F_alloc H6.out (.cells #[.int .i64 5, .int .i64 0, .string ⟨#[]⟩, .slice A5 1 c5, .slice A6 1 c6] 25)
  go_wp2_with fail
  have HZ4 : w.heap.size + 1 ≤ (w3.alloc (.cells #[.int .i64 5, .int .i64 0, .string ⟨#[]⟩, .slice A5 1 c5, .slice A6 1 c6] 25)).heap.size := by have := HZ.out; simp; omega
  generalize w3.alloc (.cells #[.int .i64 5, .int .i64 0, .string ⟨#[]⟩, .slice A5 1 c5, .slice A6 1 c6] 25) = w4 at BC HB4 HK4 HC5 HC6 HZ4 ⊢
  generalize w3.heap.size = gc at BC ⊢
  refine start_ (n := 6) (S := fun w' => w'.heap[gc]? = some (.cells #[.int .i64 5, .int .i64 0, .string ⟨#[]⟩, .slice A5 1 c5, .slice A6 1 c6] 25)) (ds := [5]) #[false, false, false, false, false, false] (by kernel_rfl) rfl rfl (blk_drew BC) (fun hHeld => ?_); refine with_tabW listTab listBits (fun HT_ HW_ => ?_)
  replace HB4 := HB4.drew; replace HK4 := blk_drew HK4; replace HC5 := Kd.F_drew HC5; replace HC6 := Kd.F_drew HC6
  clear BC
  replace HZ4 : w.heap.size + 1 ≤ w4.drew.heap.size := HZ4
  generalize w4.drew = w5 at HB4 HK4 HC5 HC6 HZ4 hHeld ⊢
  refine take_ (i := 0) (N := some 11) (v := ?_) (a' := ?_) #[true, false, false, false, false, false] rfl rfl (take_ofW HT_.out HW_.out (by kernel_rfl)) (fun _ _ _ h => h) (Or.inl ⟨by rfl, ?_⟩) hHeld ?_ ?_
  rotate_left
  · intro w' s0
    have s00 : w'.cell? ⟨gc, 0, none⟩ = some (.int .i64 5) := (blk_cell s0 0).trans rfl
    have s01 : w'.cell? ⟨gc, 1, none⟩ = some (.int .i64 0) := (blk_cell s0 1).trans rfl
    have s02 : w'.cell? ⟨gc, 2, none⟩ = some (.string ⟨#[]⟩) := (blk_cell s0 2).trans rfl
    have s03 : w'.cell? ⟨gc, 3, none⟩ = some (.slice A5 1 c5) := (blk_cell s0 3).trans rfl
    have s04 : w'.cell? ⟨gc, 4, none⟩ = some (.slice A6 1 c6) := (blk_cell s0 4).trans rfl
    go_simp
    with_reducible rfl
  rotate_left
  · simp only [Act.put, List.setIfInBounds_toArray, List.set_cons_zero, List.set_cons_succ, i64_w, i32_w]
    rfl
  refine pure_ (i := 1) (N := some 12) (v := ?_) (a' := ?_) #[true, true, false, false, false, false] rfl rfl (any_of HT_.out (by kernel_rfl)) (fun _ _ _ h => h) (Or.inl ⟨by rfl, ?_⟩) ?_ ?_
  rotate_left
  · intro w'
    go_simp
    with_reducible rfl
  rotate_left
  · simp only [Act.put, List.setIfInBounds_toArray, List.set_cons_zero, List.set_cons_succ, i64_w, i32_w]
    rfl
  refine one_ (i := 2) (N := some 13) #[true, true, true, false, false, false] rfl rfl (one_of HT_.out (by kernel_rfl)) (by decide) (fun K hK => ?_)
  refine value_ (w1 := w5.alloc (.cells #[.string deny] 9)) (v := .slice (some ⟨w5.heap.size, 0, none⟩) 1 1) (by rfl) rfl ?_ ?_
  · go_simp
  refine hK.out _ _ (blk_alloc hHeld _) (fun hHeld => ?_)
  clear hK K
  refine norm_ (a' := ?_) ?_ ?_
  rotate_left
  · show Act.put _ (some 13) _ = _
    simp only [Act.put, List.setIfInBounds_toArray, List.set_cons_zero, List.set_cons_succ, i64_w, i32_w]
    rfl
  have hS2 := strs_calls (some ⟨w5.heap.size, 0, none⟩) 1 [deny] (by simp) (w5.alloc (.cells #[.string deny] 9)) (C_single _ _ _ rfl) (Nat.le_refl _)
  replace HB4 := HB4.alloc HB4.size (.cells #[.string deny] 9)
  replace HK4 := blk_alloc HK4 (.cells #[.string deny] 9)
  replace HC5 := Kd.F_alloc HC5 (.cells #[.string deny] 9)
  replace HC6 := Kd.F_alloc HC6 (.cells #[.string deny] 9)
  refine one_ (i := 3) (N := some 14) #[true, true, true, true, false, false] rfl rfl (one_of HT_.out (by kernel_rfl)) (by decide) (fun K hK => ?_)
  refine goes_ Tryd.func27 (by kernel_rfl) rfl #[.slice (some ⟨w5.heap.size, 0, none⟩) 1 1] (by rfl) rfl rfl (by (simp only [List.map_toArray, List.map_cons, List.map_nil]); rfl) ?_
  refine hS2.mono ?_
  rintro e w6 ⟨A7, c7, A8, c8, rfl, hb6, h7, h8, hc8⟩
  refine ⟨_, rfl, ?_⟩
  replace HB4 := HB4.trans (hb6.mono HB4.size); replace HK4 := blk_below HK4 hb6; replace HC5 := Kd.F_below HC5 hb6; replace HC6 := Kd.F_below HC6 hb6
  refine hK.out _ _ (blk_below hHeld hb6) (fun hHeld => ?_)
  clear hK K
  refine norm_ (a' := ?_) ?_ ?_
  rotate_left
  · show Act.put _ (some 14) _ = _
    simp only [Act.put, List.setIfInBounds_toArray, List.set_cons_zero, List.set_cons_succ, i64_w, i32_w]
    rfl
  have hz6 : w.heap.size + 1 ≤ w6.heap.size := by have := hb6.size; simp at this; omega
  have hP2 := Put_F (fun k => w.heap.size + 1 ≤ k) 5 0 ⟨#[]⟩ A5 c5 ([] ++ [kAllow]) A6 c6 ([] ++ [strsJ [allow]]) kDeny (strsJ [deny]) A7 c7 A8 c8 w6 (Kd.F_now HC5) hc5 HC6 hc6 (by simp) (by simp) (Kd.F_mono h7 (fun k hk => by simp at hk; omega)) (Nat.zero_le _) (Kd.F_mono h8 (fun k hk => by simp at hk; omega)) hc8
  refine one_ (i := 4) (N := some 15) #[true, true, true, true, true, false] rfl rfl (one_of HT_.out (by kernel_rfl)) (by decide) (fun K hK => ?_)
  refine goes_ Tryd.func13 (by kernel_rfl) rfl #[.agg #[.int .i64 5, .int .i64 0, .string ⟨#[]⟩, .slice A5 1 c5, .slice A6 1 c6], .string kDeny, .agg #[.int .i64 4, .int .i64 0, .string ⟨#[]⟩, .slice A7 0 c7, .slice A8 1 c8]] (by rfl) rfl rfl (by (simp only [List.map_toArray, List.map_cons, List.map_nil]); rfl) ?_
  refine hP2.mono ?_
  rintro e w7 ⟨A9, c9, B9, d9, rfl, hb7, h9, hc9, h10, hc10⟩
  refine ⟨_, rfl, ?_⟩
  replace HB4 := HB4.trans (hb7.mono HB4.size); replace HK4 := blk_below HK4 hb7
  refine hK.out _ _ (blk_below hHeld hb7) (fun hHeld => ?_)
  clear hK K
  refine norm_ (a' := ?_) ?_ ?_
  rotate_left
  · show Act.put _ (some 15) _ = _
    simp only [Act.put, List.setIfInBounds_toArray, List.set_cons_zero, List.set_cons_succ, i64_w, i32_w]
    rfl
  have hs0 : w7.cell? ⟨w.heap.size, 0, none⟩ = some (.int .i64 0) := (blk_cell HK4 0).trans rfl
  have hs1 : w7.cell? ⟨w.heap.size, 1, none⟩ = some (.int .i64 0) := (blk_cell HK4 1).trans rfl
  have hs2 : w7.cell? ⟨w.heap.size, 2, none⟩ = some (.string ⟨#[]⟩) := (blk_cell HK4 2).trans rfl
  have hs3 : w7.cell? ⟨w.heap.size, 3, none⟩ = some (.slice none 0 0) := (blk_cell HK4 3).trans rfl
  have hs4 : w7.cell? ⟨w.heap.size, 4, none⟩ = some (.slice none 0 0) := (blk_cell HK4 4).trans rfl
  have hf0 := blk_frozen HK4 0; have hf1 := blk_frozen HK4 1; have hf2 := blk_frozen HK4 2; have hf3 := blk_frozen HK4 3; have hf4 := blk_frozen HK4 4
  refine last_ (i := 5) (N := none) #[true, true, true, true, true, true] rfl rfl (one_of HT_.out (by kernel_rfl)) (by decide) (fun K hK => ?_)
  refine skip_ (w1 := putWrites w7 w.heap.size (.int .i64 5) (.int .i64 0) (.string ⟨#[]⟩) (.slice A9 2 c9) (.slice B9 2 d9)) (by rfl) rfl ?_ ?_
  · go_simp
    rfl
  refine hK.out _ _ ?_
  clear hK K
  refine done_ (by kernel_rfl) ?_
  have hput : (putWrites w7 w.heap.size (.int .i64 5) (.int .i64 0) (.string ⟨#[]⟩) (.slice A9 2 c9) (.slice B9 2 d9)).heap[w.heap.size]? = some (.cells #[.int .i64 5, .int .i64 0, .string ⟨#[]⟩, .slice A9 2 c9, .slice B9 2 d9] 25 (0, 0)) := by
    unfold putWrites
    refine blk_put (cs := #[.int .i64 5, .int .i64 0, .string ⟨#[]⟩, .slice A9 2 c9, .slice none 0 0]) ?_ 4 _ rfl
    refine blk_put (cs := #[.int .i64 5, .int .i64 0, .string ⟨#[]⟩, .slice none 0 0, .slice none 0 0]) ?_ 3 _ rfl
    refine blk_put (cs := #[.int .i64 5, .int .i64 0, .string ⟨#[]⟩, .slice none 0 0, .slice none 0 0]) ?_ 2 _ rfl
    refine blk_put (cs := #[.int .i64 5, .int .i64 0, .string ⟨#[]⟩, .slice none 0 0, .slice none 0 0]) ?_ 1 _ rfl
    exact blk_put HK4 0 _ rfl
  have far : ∀ (α : Type) (d : Kd α) (A : Option Addr) (n : Nat) (xs : List α), Kd.F d w7 (fun k => w.heap.size + 1 ≤ k) A n xs → Kd.F d (putWrites w7 w.heap.size (.int .i64 5) (.int .i64 0) (.string ⟨#[]⟩) (.slice A9 2 c9) (.slice B9 2 d9)) (fun k => w.heap.size + 1 ≤ k) A n xs := by
    intro α d A n xs h
    unfold putWrites
    have hne : ∀ k, w.heap.size + 1 ≤ k → k ≠ w.heap.size := fun k hk => by omega
    exact Kd.F_far (p := ⟨w.heap.size, 4, none⟩) (Kd.F_far (p := ⟨w.heap.size, 3, none⟩) (Kd.F_far (p := ⟨w.heap.size, 2, none⟩) (Kd.F_far (p := ⟨w.heap.size, 1, none⟩) (Kd.F_far (p := ⟨w.heap.size, 0, none⟩) h hne _) hne _) hne _) hne _) hne _
  have hB9 : Below w.heap.size w (putWrites w7 w.heap.size (.int .i64 5) (.int .i64 0) (.string ⟨#[]⟩) (.slice A9 2 c9) (.slice B9 2 d9)) := by
    unfold putWrites
    exact ((((HB4.setCell (Nat.le_refl _) _).setCell (Nat.le_refl _) _).setCell (Nat.le_refl _) _).setCell (Nat.le_refl _) _).setCell (Nat.le_refl _) _
  have F9 := far _ _ _ _ _ (Kd.F_mono (ok' := fun k => w.heap.size + 1 ≤ k) h9 (fun k hk => by rcases hk with hk | hk <;> omega))
  have F10 := far _ _ _ _ _ (Kd.F_mono (ok' := fun k => w.heap.size + 1 ≤ k) h10 (fun k hk => by rcases hk with hk | hk <;> omega))
  generalize putWrites w7 w.heap.size (.int .i64 5) (.int .i64 0) (.string ⟨#[]⟩) (.slice A9 2 c9) (.slice B9 2 d9) = w8 at hput hB9 F9 F10 ⊢
  clear far h9 h10 hP2 hS2 HB4 HK4 hs0 hs1 hs2 hs3 hs4 hf0 hf1 hf2 hf3 hf4
  try go_wp2
  refine bodyPost_ret (results_cell_row rfl _ _ w.heap.size 25 #[.int .i64 5, .int .i64 0, .string ⟨#[]⟩, .slice A9 2 c9, .slice B9 2 d9] (0, 0) _ rfl hput Tryd.underlying25 rfl (by kernel_rfl)) rfl ?_
  exact ⟨A9, c9, B9, d9, rfl, hB9, F9, hc9, F10, hc10⟩
def awK : List ByteArray := [kAllow, kDeny]
def awL : List S25 := [strsJ [⟨#[42]⟩], strsJ [⟨#[42, 46, 101, 118, 105, 108]⟩]]
def awK2 : List ByteArray := awK ++ [kAli]
def awL2 : List S25 := awL ++ [⟨1, 0, ⟨#[]⟩, [], []⟩]
def awS1 : ByteArray := ⟨#[115, 49]⟩
def awEvil : ByteArray := ⟨#[120, 46, 101, 118, 105, 108]⟩
def awIp : ByteArray := ⟨#[49, 46, 50, 46, 51, 46, 52]⟩
def agoralaw36_awake.f (k : Nat) : Option Bool :=
  (acl_Allowed.f k 5 0 ⟨#[]⟩ awK awL awS1).bind fun t1 => if t1 = true then
    (acl_Allowed.f k 5 0 ⟨#[]⟩ awK awL awEvil).bind fun t2 => if t2 = true then some false else
      (acl_Allowed.f k 5 0 ⟨#[]⟩ awK awL awIp).bind fun t3 => if t3 = true then
        (acl_Allowed.f k 5 0 ⟨#[]⟩ awK2 awL2 awIp).bind fun t4 => if t4 = true then some false else acl_Allowed.f k 5 0 ⟨#[]⟩ awK2 awL2 awS1
      else some false
  else some false
def AwBox (g h : Nat) (A : Option Addr) (c : Nat) (B : Option Addr) (d : Nat) (A2 : Option Addr) (c2 : Nat) (B2 : Option Addr) (d2 : Nat) (W : World) : Prop :=
  W.cell? ⟨g, 0, none⟩ = some (.int .i64 5) ∧ W.cell? ⟨g, 1, none⟩ = some (.int .i64 0) ∧ W.cell? ⟨g, 2, none⟩ = some (.string ⟨#[]⟩) ∧ W.cell? ⟨g, 3, none⟩ = some (.slice A 2 c) ∧ W.cell? ⟨g, 4, none⟩ = some (.slice B 2 d) ∧
  W.cell? ⟨h, 0, none⟩ = some (.int .i64 5) ∧ W.cell? ⟨h, 1, none⟩ = some (.int .i64 0) ∧ W.cell? ⟨h, 2, none⟩ = some (.string ⟨#[]⟩) ∧ W.cell? ⟨h, 3, none⟩ = some (.slice A2 3 c2) ∧ W.cell? ⟨h, 4, none⟩ = some (.slice B2 3 d2)
theorem AwBox.below {g h : Nat} {A : Option Addr} {c : Nat} {B : Option Addr} {d : Nat} {A2 : Option Addr} {c2 : Nat} {B2 : Option Addr} {d2 : Nat} {W W' : World} (hx : AwBox g h A c B d A2 c2 B2 d2 W) (hb : Below W.heap.size W W') : AwBox g h A c B d A2 c2 B2 d2 W' := by
  obtain ⟨p0, p1, p2, p3, p4, q0, q1, q2, q3, q4⟩ := hx
  exact ⟨pw_cell_below hb p0, pw_cell_below hb p1, pw_cell_below hb p2, pw_cell_below hb p3, pw_cell_below hb p4, pw_cell_below hb q0, pw_cell_below hb q1, pw_cell_below hb q2, pw_cell_below hb q3, pw_cell_below hb q4⟩
set_option maxRecDepth 100000 in
set_option maxHeartbeats 4000000 in
theorem agoralaw36_awake.calls (k : Nat) (r : Bool) (w : World) (hT : Tabs w) (h : agoralaw36_awake.f k = some r) :
    Calls Tryd.prog 9 #[] w fun e w' => e = .returned (.bool r) ∧ Below w.heap.size w w' := by
  go_enter Tryd.func9, Tryd.ntmps9
  go_wp2_with fail
  refine (list_calls _ _ _).mono ?_
  rintro e w2 ⟨A, c, B, d, rfl, hb2, f3, hc, f4, hd⟩
  have HB2 := Lib.hid hb2
  have hP : Calls Tryd.prog 13 #[.agg #[.int .i64 5, .int .i64 0, .string ⟨#[]⟩, .slice A 2 c, .slice B 2 d], .string kAli, .agg #[.int .i64 1, .int .i64 0, .string ⟨#[]⟩, .slice none 0 0, .slice none 0 0]] (w2.alloc (.cells #[.int .i64 5, .int .i64 0, .string ⟨#[]⟩, .slice A 2 c, .slice B 2 d] 25)) fun e w' => ∃ A' c' B' d', e = .returned (.agg #[.int .i64 5, .int .i64 0, .string ⟨#[]⟩, .slice A' 3 c', .slice B' 3 d']) ∧ Below (w2.alloc (.cells #[.int .i64 5, .int .i64 0, .string ⟨#[]⟩, .slice A 2 c, .slice B 2 d] 25)).heap.size (w2.alloc (.cells #[.int .i64 5, .int .i64 0, .string ⟨#[]⟩, .slice A 2 c, .slice B 2 d] 25)) w' ∧ Kd.C Kd.string w' A' 3 awK2 ∧ 3 ≤ c' ∧ Kd.C k25 w' B' 3 awL2 ∧ 3 ≤ d' := by
    refine (Put_F (fun _ => True) 5 0 ⟨#[]⟩ A c awK B d awL kAli ⟨1, 0, ⟨#[]⟩, [], []⟩ none 0 none 0 (w2.alloc (.cells #[.int .i64 5, .int .i64 0, .string ⟨#[]⟩, .slice A 2 c, .slice B 2 d] 25)) (Kd.C_alloc (Kd.F_now f3) _) hc (Kd.F_alloc (Kd.F_mono f4 (fun _ _ => trivial)) _) hd (by decide) (by decide) (Kd.F_nil _ _ _) (Nat.le_refl _) (Kd.F_nil _ _ _) (Nat.le_refl _)).mono ?_
    rintro e w' ⟨A', c', B', d', rfl, h1, h2, h3, h4, h5⟩
    exact ⟨A', c', B', d', rfl, h1, Kd.F_now h2, h3, Kd.F_now h4, h5⟩
  have HP := Lib.hid hP
  have CK := Lib.hid (Kd.C_alloc (Kd.F_now f3) (.cells #[.int .i64 5, .int .i64 0, .string ⟨#[]⟩, .slice A 2 c, .slice B 2 d] 25)); have CL := Lib.hid (Kd.C_alloc (Kd.F_now f4) (.cells #[.int .i64 5, .int .i64 0, .string ⟨#[]⟩, .slice A 2 c, .slice B 2 d] 25))
  have BK := Lib.hid (blk_new w2 (.cells #[.int .i64 5, .int .i64 0, .string ⟨#[]⟩, .slice A 2 c, .slice B 2 d] 25))
  have HB3 := Lib.hid (HB2.out.alloc HB2.out.size (.cells #[.int .i64 5, .int .i64 0, .string ⟨#[]⟩, .slice A 2 c, .slice B 2 d] 25))
  clear hP f3 f4 hb2 HB2
  go_wp2_with fail
  refine HP.out.mono ?_
  rintro e w3 ⟨A2, c2, B2, d2, rfl, hb3, g3, hc2, g4, hd2⟩
  have CK2 := Lib.hid (Kd.C_alloc g3 (.cells #[.int .i64 5, .int .i64 0, .string ⟨#[]⟩, .slice A2 3 c2, .slice B2 3 d2] 25)); have CL2 := Lib.hid (Kd.C_alloc g4 (.cells #[.int .i64 5, .int .i64 0, .string ⟨#[]⟩, .slice A2 3 c2, .slice B2 3 d2] 25))
  have CK1 := Lib.hid (Kd.C_alloc (Kd.C_below CK.out hb3) (.cells #[.int .i64 5, .int .i64 0, .string ⟨#[]⟩, .slice A2 3 c2, .slice B2 3 d2] 25)); have CL1 := Lib.hid (Kd.C_alloc (Kd.C_below CL.out hb3) (.cells #[.int .i64 5, .int .i64 0, .string ⟨#[]⟩, .slice A2 3 c2, .slice B2 3 d2] 25))
  have BK1 := Lib.hid (blk_alloc (blk_below BK.out hb3) (.cells #[.int .i64 5, .int .i64 0, .string ⟨#[]⟩, .slice A2 3 c2, .slice B2 3 d2] 25)); have BK2 := Lib.hid (blk_new w3 (.cells #[.int .i64 5, .int .i64 0, .string ⟨#[]⟩, .slice A2 3 c2, .slice B2 3 d2] 25))
  have HB4 := Lib.hid ((HB3.out.trans (hb3.mono HB3.out.size)).alloc (HB3.out.trans (hb3.mono HB3.out.size)).size (.cells #[.int .i64 5, .int .i64 0, .string ⟨#[]⟩, .slice A2 3 c2, .slice B2 3 d2] 25))
  have hG : w2.heap.size < w3.heap.size := by have := hb3.size; simp at this; omega
  clear HP CK CL BK HB3 hb3 g3 g4
  have hA1 : ∀ W s b, Below (w3.alloc (.cells #[.int .i64 5, .int .i64 0, .string ⟨#[]⟩, .slice A2 3 c2, .slice B2 3 d2] 25)).heap.size (w3.alloc (.cells #[.int .i64 5, .int .i64 0, .string ⟨#[]⟩, .slice A2 3 c2, .slice B2 3 d2] 25)) W → acl_Allowed.f k 5 0 ⟨#[]⟩ awK awL s = some b → Calls Tryd.prog 7 #[.agg #[.int .i64 5, .int .i64 0, .string ⟨#[]⟩, .slice A 2 c, .slice B 2 d], .string s] W fun e w' => e = .returned (.bool b) ∧ Below W.heap.size W w' :=
    fun W s b hb hh => acl_Allowed.calls k 5 0 ⟨#[]⟩ A c awK B d awL s b W (hT.below (HB4.out.trans (hb.mono HB4.out.size))) (Kd.C_below CK1.out hb) hc (Kd.C_below CL1.out hb) hd hh
  have hA2 : ∀ W s b, Below (w3.alloc (.cells #[.int .i64 5, .int .i64 0, .string ⟨#[]⟩, .slice A2 3 c2, .slice B2 3 d2] 25)).heap.size (w3.alloc (.cells #[.int .i64 5, .int .i64 0, .string ⟨#[]⟩, .slice A2 3 c2, .slice B2 3 d2] 25)) W → acl_Allowed.f k 5 0 ⟨#[]⟩ awK2 awL2 s = some b → Calls Tryd.prog 7 #[.agg #[.int .i64 5, .int .i64 0, .string ⟨#[]⟩, .slice A2 3 c2, .slice B2 3 d2], .string s] W fun e w' => e = .returned (.bool b) ∧ Below W.heap.size W w' :=
    fun W s b hb hh => acl_Allowed.calls k 5 0 ⟨#[]⟩ A2 c2 awK2 B2 d2 awL2 s b W (hT.below (HB4.out.trans (hb.mono HB4.out.size))) (Kd.C_below CK2.out hb) hc2 (Kd.C_below CL2.out hb) hd2 hh
  have HA1 := Lib.hid hA1; have HA2 := Lib.hid hA2; have H := Lib.hid h
  clear hA1 hA2 h CK1 CL1 CK2 CL2 hc hd hc2 hd2 hT
  have hR := Below.refl (w3.alloc (.cells #[.int .i64 5, .int .i64 0, .string ⟨#[]⟩, .slice A2 3 c2, .slice B2 3 d2] 25)).heap.size (w3.alloc (.cells #[.int .i64 5, .int .i64 0, .string ⟨#[]⟩, .slice A2 3 c2, .slice B2 3 d2] 25))
  have HR := Lib.hid hR; clear hR
  have h0 := H.out
  unfold agoralaw36_awake.f at h0
  clear H
  have hBX : AwBox w2.heap.size w3.heap.size A c B d A2 c2 B2 d2 (w3.alloc (.cells #[.int .i64 5, .int .i64 0, .string ⟨#[]⟩, .slice A2 3 c2, .slice B2 3 d2] 25)) :=
    ⟨(blk_cell BK1.out 0).trans rfl, (blk_cell BK1.out 1).trans rfl, (blk_cell BK1.out 2).trans rfl, (blk_cell BK1.out 3).trans rfl, (blk_cell BK1.out 4).trans rfl, (blk_cell BK2.out 0).trans rfl, (blk_cell BK2.out 1).trans rfl, (blk_cell BK2.out 2).trans rfl, (blk_cell BK2.out 3).trans rfl, (blk_cell BK2.out 4).trans rfl⟩
  have HBX := Lib.hid hBX
  clear BK1 BK2 hBX
  obtain ⟨p0, p1, p2, p3, p4, q0, q1, q2, q3, q4⟩ := HBX.out
  cases hh1 : acl_Allowed.f k 5 0 ⟨#[]⟩ awK awL awS1 with
  | none => rw [hh1] at h0; cases h0
  | some t =>
    rw [hh1, Option.bind_some] at h0
    have HC := Lib.hid (HA1.out _ _ _ HR.out hh1)
    clear hh1
    cases t with
    | false =>
      obtain rfl : false = r := by simpa using h0
      clear h0
      go_wp2_with fail
      refine HC.out.mono ?_
      rintro e w9 ⟨rfl, hb9⟩
      have HE := Lib.hid (HB4.out.trans ((HR.out.trans (hb9.mono HR.out.size)).mono HB4.out.size))
      clear p0 p1 p2 p3 p4 q0 q1 q2 q3 q4
      go_wp2
      go_ret
      exact ⟨rfl, HE.out⟩
    | true =>
      rw [if_pos rfl] at h0
      go_wp2_with fail
      refine HC.out.mono ?_
      rintro e u1 ⟨rfl, hb11⟩
      have HR1 := Lib.hid (HR.out.trans (hb11.mono HR.out.size))
      have HBX1 := Lib.hid (HBX.out.below hb11)
      clear HC hb11 p0 p1 p2 p3 p4 q0 q1 q2 q3 q4
      obtain ⟨p0, p1, p2, p3, p4, q0, q1, q2, q3, q4⟩ := HBX1.out
      cases hh2 : acl_Allowed.f k 5 0 ⟨#[]⟩ awK awL awEvil with
      | none => rw [hh2] at h0; cases h0
      | some t =>
        rw [hh2, Option.bind_some] at h0
        have HC := Lib.hid (HA1.out _ _ _ HR1.out hh2)
        clear hh2
        cases t with
        | true =>
          obtain rfl : false = r := by simpa using h0
          clear h0
          go_wp2_with fail
          refine HC.out.mono ?_
          rintro e w9 ⟨rfl, hb9⟩
          have HE := Lib.hid (HB4.out.trans ((HR1.out.trans (hb9.mono HR1.out.size)).mono HB4.out.size))
          clear p0 p1 p2 p3 p4 q0 q1 q2 q3 q4
          go_wp2
          go_ret
          exact ⟨rfl, HE.out⟩
        | false =>
          rw [if_neg (by decide)] at h0
          go_wp2_with fail
          refine HC.out.mono ?_
          rintro e u2 ⟨rfl, hb12⟩
          have HR2 := Lib.hid (HR1.out.trans (hb12.mono HR1.out.size))
          have HBX2 := Lib.hid (HBX1.out.below hb12)
          clear HC hb12 p0 p1 p2 p3 p4 q0 q1 q2 q3 q4
          obtain ⟨p0, p1, p2, p3, p4, q0, q1, q2, q3, q4⟩ := HBX2.out
          cases hh3 : acl_Allowed.f k 5 0 ⟨#[]⟩ awK awL awIp with
          | none => rw [hh3] at h0; cases h0
          | some t =>
            rw [hh3, Option.bind_some] at h0
            have HC := Lib.hid (HA1.out _ _ _ HR2.out hh3)
            clear hh3
            cases t with
            | false =>
              obtain rfl : false = r := by simpa using h0
              clear h0
              go_wp2_with fail
              refine HC.out.mono ?_
              rintro e w9 ⟨rfl, hb9⟩
              have HE := Lib.hid (HB4.out.trans ((HR2.out.trans (hb9.mono HR2.out.size)).mono HB4.out.size))
              clear p0 p1 p2 p3 p4 q0 q1 q2 q3 q4
              go_wp2
              go_ret
              exact ⟨rfl, HE.out⟩
            | true =>
              rw [if_pos rfl] at h0
              go_wp2_with fail
              refine HC.out.mono ?_
              rintro e u3 ⟨rfl, hb13⟩
              have HR3 := Lib.hid (HR2.out.trans (hb13.mono HR2.out.size))
              have HBX3 := Lib.hid (HBX2.out.below hb13)
              clear HC hb13 p0 p1 p2 p3 p4 q0 q1 q2 q3 q4
              obtain ⟨p0, p1, p2, p3, p4, q0, q1, q2, q3, q4⟩ := HBX3.out
              cases hh4 : acl_Allowed.f k 5 0 ⟨#[]⟩ awK2 awL2 awIp with
              | none => rw [hh4] at h0; cases h0
              | some t =>
                rw [hh4, Option.bind_some] at h0
                have HC := Lib.hid (HA2.out _ _ _ HR3.out hh4)
                clear hh4
                cases t with
                | true =>
                  obtain rfl : false = r := by simpa using h0
                  clear h0
                  go_wp2_with fail
                  refine HC.out.mono ?_
                  rintro e w9 ⟨rfl, hb9⟩
                  have HE := Lib.hid (HB4.out.trans ((HR3.out.trans (hb9.mono HR3.out.size)).mono HB4.out.size))
                  clear p0 p1 p2 p3 p4 q0 q1 q2 q3 q4
                  go_wp2
                  go_ret
                  exact ⟨rfl, HE.out⟩
                | false =>
                  rw [if_neg (by decide)] at h0
                  go_wp2_with fail
                  refine HC.out.mono ?_
                  rintro e u4 ⟨rfl, hb14⟩
                  have HR4 := Lib.hid (HR3.out.trans (hb14.mono HR3.out.size))
                  have HBX4 := Lib.hid (HBX3.out.below hb14)
                  clear HC hb14 p0 p1 p2 p3 p4 q0 q1 q2 q3 q4
                  obtain ⟨p0, p1, p2, p3, p4, q0, q1, q2, q3, q4⟩ := HBX4.out
                  have HC := Lib.hid (HA2.out _ _ _ HR4.out h0)
                  clear h0
                  go_wp2_with fail
                  refine HC.out.mono ?_
                  rintro e w9 ⟨rfl, hb9⟩
                  have HE := Lib.hid (HB4.out.trans ((HR4.out.trans (hb9.mono HR4.out.size)).mono HB4.out.size))
                  clear p0 p1 p2 p3 p4 q0 q1 q2 q3 q4
                  go_wp2
                  go_ret
                  exact ⟨rfl, HE.out⟩
end Go.Proofs.YtcklgalgljmljaaDoor.Q
