/- HandAcl0: a text of this claim's proof, as printed or written, without what the claim does not use. -/
import Derived.WalkKit
import Derived.WalkSpells
import Derived.Deep.LoopGhost
import Derived.Lib.Hide
import Derived.BigQuiet
import Derived.Deep.QuietTactic
import Derived.Test.YtcklgalgljmljaaDoorShelf
import Derived.Test.YtcklgalgljmljaaDoorTabs
import Derived.Test.YtcklgalgljmljaaDoorHandGlob
import Derived.Test.YtcklgalgljmljaaDoorHandIdent
import Derived.Test.YtcklgalgljmljaaDoorQx0
import Derived.Test.YtcklgalgljmljaaDoorQx7
import Derived.Test.YtcklgalgljmljaaDoorTabs
namespace Go.Proofs.YtcklgalgljmljaaDoor.Q
open Go.RowKit Go.Shelf Go.Proofs.YtcklgalgljmljaaDoorW.PrintWords Go.Proofs.YtcklgalgljmljaaDoorW.PrintLast
abbrev JS := S25
def aclIdx : List ByteArray → ByteArray → Int → Int
  | [], _, _ => -1
  | a :: l, x, i => if a.toList = x.toList then i else aclIdx l x (i + 1)
def aclValue (kind : Int) (keys : List ByteArray) (list : List JS) (key : ByteArray) : Option JS :=
  if kind ≠ 5 then none else if aclIdx keys key 0 < 0 then none else if (list.length : Int) ≤ aclIdx keys key 0 then none else some (rd_T25 list (aclIdx keys key 0))
theorem aclIdx_l0 (l : List ByteArray) (hl : l.length ≤ 9223372036854775806) (x : ByteArray) : ∀ (m k i : Nat), m = l.length - i → i ≤ l.length → m < k → slices_Index_string_string.l0 k l x (l.length : Int) (i : Int) = some (aclIdx (l.drop i) x (i : Int))
  | 0, k, i, hm, hi, hk => by
    obtain ⟨k, rfl⟩ : ∃ j, k = j + 1 := ⟨k - 1, by omega⟩
    have : i = l.length := by omega
    subst this
    simp [slices_Index_string_string.l0, aclIdx]
  | m + 1, k, i, hm, hi, hk => by
    obtain ⟨k, rfl⟩ : ∃ j, k = j + 1 := ⟨k - 1, by omega⟩
    have hlt : i < l.length := by omega
    have ih := aclIdx_l0 l hl x m k (i + 1) (by omega) (by omega) (by omega)
    rw [List.drop_eq_getElem_cons hlt]
    have hrd : rdOf ByteArray.empty l (i : Int) = l[i] := by simp [rdOf, hlt]
    have hw : wrap64 ((i : Int) + 1) = ((i + 1 : Nat) : Int) := by unfold wrap64; omega
    simp only [slices_Index_string_string.l0, aclIdx]
    rw [if_pos (by omega), if_pos (by omega), if_pos (by omega), hrd, hw, ih]
    by_cases h : l[i].toList = x.toList
    · rw [if_pos h.symm, if_pos h]
    · rw [if_neg (fun e => h e.symm), if_neg h]; rfl
theorem aclIdx_ge (l : List ByteArray) (x : ByteArray) : ∀ i, -1 ≤ i → -1 ≤ aclIdx l x i ∧ aclIdx l x i < i + l.length + 1 := by
  induction l with
  | nil => intro i hi; simp [aclIdx]; omega
  | cons a l ih =>
    intro i hi
    simp only [aclIdx, List.length_cons]
    split
    · omega
    · have := ih (i + 1) (by omega); omega
theorem acl_index (l : List ByteArray) (hl : l.length ≤ 9223372036854775806) (A : Option Addr) (c : Nat) (x : ByteArray) (w : World) (hr : Kd.C Kd.string w A l.length l) (hc : l.length ≤ c) :
    Calls Tryd.prog 33 #[.slice A l.length c, .string x] w fun e w' => e = .returned (.int .i64 (aclIdx l x 0)) ∧ Drawn0 w w' := by
  refine slices_Index_string_string.calls (l.length + 1) A c l x _ w hr hc ?_
  unfold slices_Index_string_string.f
  have := aclIdx_l0 l hl x l.length (l.length + 1) 0 (by omega) (by omega) (by omega)
  simpa using this
def jsv (kind n : Int) (t : ByteArray) (A : Option Addr) (a c : Nat) (B : Option Addr) (b d : Nat) : Value := .agg #[.int .i64 kind, .int .i64 n, .string t, .slice A a c, .slice B b d]
def put5 (W : World) (g : Nat) (v0 v1 v2 v3 v4 : Value) : World := ((((W.setCell ⟨g, 0, none⟩ v0).setCell ⟨g, 1, none⟩ v1).setCell ⟨g, 2, none⟩ v2).setCell ⟨g, 3, none⟩ v3).setCell ⟨g, 4, none⟩ v4
theorem put5_heap {W : World} {g : Nat} {a0 a1 a2 a3 a4 : Value} {t : TypeId} (h : W.heap[g]? = some (.cells #[a0, a1, a2, a3, a4] t (0, 0))) (v0 v1 v2 v3 v4 : Value) : (put5 W g v0 v1 v2 v3 v4).heap[g]? = some (.cells #[v0, v1, v2, v3, v4] t (0, 0)) := by
  unfold put5
  refine blk_put (cs := #[v0, v1, v2, v3, a4]) ?_ 4 _ rfl
  refine blk_put (cs := #[v0, v1, v2, a3, a4]) ?_ 3 _ rfl
  refine blk_put (cs := #[v0, v1, a2, a3, a4]) ?_ 2 _ rfl
  refine blk_put (cs := #[v0, a1, a2, a3, a4]) ?_ 1 _ rfl
  exact blk_put (cs := #[a0, a1, a2, a3, a4]) h 0 _ rfl
theorem put5_below {n : Nat} {w W : World} {g : Nat} (h : Below n w W) (hg : n ≤ g) (v0 v1 v2 v3 v4 : Value) : Below n w (put5 W g v0 v1 v2 v3 v4) := by
  unfold put5
  exact ((((h.setCell hg _).setCell hg _).setCell hg _).setCell hg _).setCell hg _
def valEnds (o : Option JS) (w : World) (e : Ending) : Prop :=
  match o with
  | none => e = .returned (.tuple #[jsv 0 0 ByteArray.empty none 0 0 none 0 0, .bool false])
  | some x => ∃ A' c' B' d', e = .returned (.tuple #[jsv x.f0 x.f1 x.f2 A' x.f3.length c' B' x.f4.length d', .bool true]) ∧ x.f3.length ≤ c' ∧ Kd.string.C w A' x.f3.length x.f3 ∧ x.f4.length ≤ d' ∧ k25.C w B' x.f4.length x.f4
set_option maxRecDepth 100000 in
set_option maxHeartbeats 2000000 in
theorem value_calls (kind n : Int) (t : ByteArray) (A : Option Addr) (c : Nat) (keys : List ByteArray) (B : Option Addr) (d : Nat) (list : List JS) (key : ByteArray) (w : World)
    (hl : keys.length ≤ 9223372036854775806) (hC : Kd.C Kd.string w A keys.length keys) (hc : keys.length ≤ c) (hD : Kd.C k25 w B list.length list) (hd : list.length ≤ d) :
    Calls Tryd.prog 18 #[jsv kind n t A keys.length c B list.length d, .string key] w fun e w' => Below w.heap.size w w' ∧
      valEnds (aclValue kind keys list key) w e := by
  have HC := Lib.hid hC; have HD := Lib.hid hD; have Hc := Lib.hid hc; have Hd := Lib.hid hd
  clear hC hD hc hd
  unfold jsv
  go_enter Tryd.func18, Tryd.ntmps18
  go_wp2_with fail
  refine (acl_index keys hl A c key _ (Kd.C_alloc (Kd.C_alloc HC.out _) _) Hc.out).mono ?_
  rintro e w2 ⟨rfl, ⟨nd, rfl⟩⟩
  have hge := aclIdx_ge keys key 0 (by omega)
  have hV : aclValue kind keys list key = if kind ≠ 5 then none else if aclIdx keys key 0 < 0 then none else if (list.length : Int) ≤ aclIdx keys key 0 then none else some (rd_T25 list (aclIdx keys key 0)) := rfl
  generalize aclIdx keys key 0 = i at *
  have HV := Lib.hid hV; clear hV
  have HB : Below w.heap.size w (((w.alloc (Obj.cells #[.int .i64 kind, .int .i64 n, .string t, .slice A keys.length c, .slice B list.length d] 25)).alloc (Obj.cells #[.int .i64 0, .int .i64 0, .string ⟨#[]⟩, .slice none 0 0, .slice none 0 0] 25)).drewN nd) := pw_below_drewN (((Below.refl _ _).alloc (Nat.le_refl _) _).alloc (by simp) _) nd
  have HK : (((w.alloc (Obj.cells #[.int .i64 kind, .int .i64 n, .string t, .slice A keys.length c, .slice B list.length d] 25)).alloc (Obj.cells #[.int .i64 0, .int .i64 0, .string ⟨#[]⟩, .slice none 0 0, .slice none 0 0] 25)).drewN nd).heap[w.heap.size + 1]? = some (Obj.cells #[.int .i64 0, .int .i64 0, .string ⟨#[]⟩, .slice none 0 0, .slice none 0 0] 25) := by
    have := blk_drewN (blk_new (w.alloc (Obj.cells #[.int .i64 kind, .int .i64 n, .string t, .slice A keys.length c, .slice B list.length d] 25)) (Obj.cells #[.int .i64 0, .int .i64 0, .string ⟨#[]⟩, .slice none 0 0, .slice none 0 0] 25)) nd
    simpa using this
  by_cases h5 : kind = 5
  · subst h5
    by_cases h0 : i < 0
    · have d0 : decide (i < 0) = true := decide_eq_true h0
      have HN : aclValue 5 keys list key = none := by rw [HV.out, if_neg (by simp), if_pos h0]
      have HN' := Lib.hid HN; clear HN HV
      go_wp2
      refine bodyPost_ret (results_ct rfl _ _ (w.heap.size + 1) 25 #[.int .i64 0, .int .i64 0, .string ⟨#[]⟩, .slice none 0 0, .slice none 0 0] (0, 0) _ rfl (put5_heap HK _ _ _ _ _) rfl rfl (by kernel_rfl)) rfl ?_
      rw [HN'.out]
      exact ⟨put5_below HB (by omega) _ _ _ _ _, rfl⟩
    · have d0 : decide (i < 0) = false := decide_eq_false h0
      by_cases h1 : (list.length : Int) ≤ i
      · have d1 : decide ((list.length : Int) ≤ i) = true := decide_eq_true h1
        have HN : aclValue 5 keys list key = none := by rw [HV.out, if_neg (by simp), if_neg h0, if_pos h1]
        have HN' := Lib.hid HN; clear HN HV
        go_wp2
        refine bodyPost_ret (results_ct rfl _ _ (w.heap.size + 1) 25 #[.int .i64 0, .int .i64 0, .string ⟨#[]⟩, .slice none 0 0, .slice none 0 0] (0, 0) _ rfl (put5_heap HK _ _ _ _ _) rfl rfl (by kernel_rfl)) rfl ?_
        rw [HN'.out]
        exact ⟨put5_below HB (by omega) _ _ _ _ _, rfl⟩
      · have d1 : decide ((list.length : Int) ≤ i) = false := decide_eq_false h1
        have HN : aclValue 5 keys list key = some (rd_T25 list i) := by rw [HV.out, if_neg (by simp), if_neg h0, if_neg h1]
        have HN' := Lib.hid HN; clear HN HV
        have hT := at_T25 (Kd.C_below HD.out HB) i (by omega) (by omega)
        have hT0 := at_T25 HD.out i (by omega) (by omega)
        obtain ⟨ad, A3, c3, A4, c4, rfl, g0, g1, g2, g3, g4, L3, C3, L4, C4⟩ := hT
        obtain ⟨ad', A3', c3', A4', c4', he, q0, q1, q2, q3, q4, M3, D3, M4, D4⟩ := hT0
        obtain rfl : ad = ad' := by injection he
        obtain ⟨rfl, rfl⟩ : A3 = A3' ∧ c3 = c3' := by have := (pw_cell_below HB q3).symm.trans g3; simpa [eq_comm] using this
        obtain ⟨rfl, rfl⟩ : A4 = A4' ∧ c4 = c4' := by have := (pw_cell_below HB q4).symm.trans g4; simpa [eq_comm] using this
        have HC3 := Lib.hid D3; have HC4 := Lib.hid D4
        clear C3 C4 D3 D4 q0 q1 q2 q3 q4
        have i0 : 0 ≤ i := by omega
        have i1 : i < (list.length : Int) := by omega
        generalize rd_T25 list i = x at *
        go_wp2
        refine bodyPost_ret (results_ct rfl _ _ (w.heap.size + 1) 25 #[.int .i64 x.f0, .int .i64 x.f1, .string x.f2, .slice A3 x.f3.length c3, .slice A4 x.f4.length c4] (0, 0) _ rfl (put5_heap HK _ _ _ _ _) rfl rfl (by kernel_rfl)) rfl ?_
        rw [HN'.out]
        exact ⟨put5_below HB (by omega) _ _ _ _ _, _, _, _, _, rfl, L3, HC3.out, L4, HC4.out⟩
  · have b5 : (kind != 5) = true := by simp [h5]
    have HN : aclValue kind keys list key = none := by rw [HV.out, if_pos h5]
    have HN' := Lib.hid HN; clear HN HV h5
    go_wp2
    refine bodyPost_ret (results_ct rfl _ _ (w.heap.size + 1) 25 #[.int .i64 0, .int .i64 0, .string ⟨#[]⟩, .slice none 0 0, .slice none 0 0] (0, 0) _ rfl (put5_heap HK _ _ _ _ _) rfl rfl (by kernel_rfl)) rfl ?_
    rw [HN'.out]
    exact ⟨put5_below HB (by omega) _ _ _ _ _, rfl⟩
end Go.Proofs.YtcklgalgljmljaaDoor.Q
