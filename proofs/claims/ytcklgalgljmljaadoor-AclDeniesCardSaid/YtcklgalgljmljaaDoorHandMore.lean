/- HandMore: a text of this claim's proof, as printed or written, without what the claim does not use. -/
import Derived.WalkKit
import Derived.WalkSpells
import Derived.Deep.LoopGhost
import Derived.Lib.Hide
import Derived.BigQuiet
import Derived.Deep.QuietTactic
import Derived.Test.YtcklgalgljmljaaDoorShelf
import Derived.Test.YtcklgalgljmljaaDoorTabs
import Derived.Test.YtcklgalgljmljaaDoorHandPut
import Derived.Test.YtcklgalgljmljaaDoorHandAwake
import Derived.Test.YtcklgalgljmljaaDoorPureAcls
import Derived.Test.YtcklgalgljmljaaDoorQx13
namespace Go.Proofs.YtcklgalgljmljaaDoor.Q
open Go.RowKit Go.Proofs.YtcklgalgljmljaaDoorW.PrintWords Go.Proofs.YtcklgalgljmljaaDoorW.PrintLast Go.Proofs.YtcklgalgljmljaaDoorW.PrintMore
theorem R_single (W : World) (s : ByteArray) (base g : Nat) (hg : g = W.heap.size) (hb : base ≤ W.heap.size) : Kd.string.R 9 (W.alloc (.cells #[.string s] 9)) base (fun _ => True) (.slice (some ⟨g, 0, none⟩) 1 1) [s] := by
  subst hg
  refine ⟨fun _ _ => trivial, [.string s], ?_, ?_⟩
  · have h2 := World.ownsRow_lit (base := base) (e := 9) (size := 1) W #[.string s] 1 hb (by decide) (by rfl)
    have h3 : Kd.string.sz = 1 := rfl
    rw [h3]; simpa using h2
  · exact Reps.one (show Kd.M Kd.string _ _ _ s [.string s] from rfl) (Reps.none _ _)
def sK (keys : List ByteArray) (list : List JS) (key : ByteArray) (i : Nat) : List ByteArray := mK keys list key i
def sL (keys : List ByteArray) (list : List JS) (key : ByteArray) (i : Nat) : List JS := mL keys list key i
structure MoreInv (w : World) (kd n : Int) (t : ByteArray) (A3 : Option Addr) (c3 : Nat) (keys : List ByteArray) (A4 : Option Addr) (c4 : Nat) (list : List JS) (key : ByteArray) (A15 : Option Addr) (c15 : Nat) (ps : List ByteArray) (go : Nat) (i : Nat) (A5 : Option Addr) (c5 : Nat) (A6 : Option Addr) (c6 : Nat) (W : World) : Prop where
  i1 : i ≤ keys.length
  i2 : i ≤ list.length
  go1 : w.heap.size + 1 < go
  go2 : go < W.heap.size
  bel : Below w.heap.size w W
  bc : W.heap[w.heap.size]? = some (.cells #[.int .i64 kd, .int .i64 n, .string t, .slice A3 keys.length c3, .slice A4 list.length c4] 25)
  br : W.heap[w.heap.size + 1]? = some (.cells #[.int .i64 0, .int .i64 0, .string ⟨#[]⟩, .slice none 0 0, .slice none 0 0] 25)
  bo : W.heap[go]? = some (.cells #[.int .i64 5, .int .i64 0, .string ⟨#[]⟩, .slice A5 (sK keys list key i).length c5, .slice A6 (sL keys list key i).length c6] 25)
  l5 : (sK keys list key i).length ≤ c5
  l6 : (sL keys list key i).length ≤ c6
  f5 : Kd.F Kd.string W (fun k => k ≠ go ∧ k ≠ w.heap.size + 1) A5 (sK keys list key i).length (sK keys list key i)
  f6 : Kd.F k25 W (fun k => k ≠ go ∧ k ≠ w.heap.size + 1) A6 (sL keys list key i).length (sL keys list key i)
  f15 : Kd.F Kd.string W (fun k => k ≠ go ∧ k ≠ w.heap.size + 1) A15 ps.length ps
  f3 : Kd.F Kd.string W (fun k => k ≠ go ∧ k ≠ w.heap.size + 1) A3 keys.length keys
  f4 : Kd.F k25 W (fun k => k ≠ go ∧ k ≠ w.heap.size + 1) A4 list.length list
  l15 : ps.length ≤ c15
def moreT7 : Bool × List (List Nat × List Nat) := (true, [([], []), ([], []), ([1], [1]), ([], []), ([2, 3], [2, 3]), ([4], [4]), ([], []), ([6], [6]), ([], []), ([7, 8], [7, 8]), ([9], [9]), ([0, 5, 10], [0, 5, 10]), ([11, 11, 0, 1, 2, 3, 4, 5, 6, 7, 8, 9, 10, 11], [11])])
def moreB7 : List Nat := [0, 0, 2, 0, 14, 30, 0, 64, 0, 448, 960, 2047, 4095]
theorem moreTab7 : rtab .any (opsOf Tryd.f12 7) = moreT7 := by kernel_rfl
theorem moreBits7 : waitsOk moreT7.2 moreB7 = true := by kernel_rfl
def moreT8 : Bool × List (List Nat × List Nat) := (true, [([], []), ([], []), ([], []), ([2], [2]), ([0, 1, 3, 3], [0, 1, 3]), ([4, 4, 0, 1, 2, 3, 4], [4])])
def moreB8 : List Nat := [0, 0, 0, 4, 15, 31]
theorem moreTab8 : rtab .any (opsOf Tryd.f12 8) = moreT8 := by kernel_rfl
theorem moreBits8 : waitsOk moreT8.2 moreB8 = true := by kernel_rfl
structure MoreS (hs go : Nat) (kd n : Int) (t : ByteArray) (ad : Addr) (c3 : Nat) (keys : List ByteArray) (ad4 : Addr) (c4 : Nat) (list : List JS) (A5 : Option Addr) (n5 c5 : Nat) (A6 : Option Addr) (n6 c6 : Nat) (i : Nat) (x : ByteArray) (y : JS) (A7 : Option Addr) (c7 : Nat) (A8 : Option Addr) (c8 : Nat) (W : World) : Prop where
  bo : W.heap[go]? = some (.cells #[.int .i64 5, .int .i64 0, .string ⟨#[]⟩, .slice A5 n5 c5, .slice A6 n6 c6] 25)
  bc : W.heap[hs]? = some (.cells #[.int .i64 kd, .int .i64 n, .string t, .slice (some ad) keys.length c3, .slice (some ad4) list.length c4] 25)
  k0 : W.cell? (ad.add i) = some (.string x)
  d0 : W.cell? (ad4.add (i * 5)) = some (.int .i64 y.f0)
  d1 : W.cell? ⟨(ad4.add (i * 5)).block, (ad4.add (i * 5)).off + 1, none⟩ = some (.int .i64 y.f1)
  d2 : W.cell? ⟨(ad4.add (i * 5)).block, (ad4.add (i * 5)).off + 2, none⟩ = some (.string y.f2)
  d3 : W.cell? ⟨(ad4.add (i * 5)).block, (ad4.add (i * 5)).off + 3, none⟩ = some (.slice A7 y.f3.length c7)
  d4 : W.cell? ⟨(ad4.add (i * 5)).block, (ad4.add (i * 5)).off + 4, none⟩ = some (.slice A8 y.f4.length c8)
theorem MoreS.below {hs go : Nat} {kd n : Int} {t : ByteArray} {ad : Addr} {c3 : Nat} {keys : List ByteArray} {ad4 : Addr} {c4 : Nat} {list : List JS} {A5 : Option Addr} {n5 c5 : Nat} {A6 : Option Addr} {n6 c6 i : Nat} {x : ByteArray} {y : JS} {A7 : Option Addr} {c7 : Nat} {A8 : Option Addr} {c8 : Nat} {W W' : World}
    (h : MoreS hs go kd n t ad c3 keys ad4 c4 list A5 n5 c5 A6 n6 c6 i x y A7 c7 A8 c8 W) (hb : Below W.heap.size W W') : MoreS hs go kd n t ad c3 keys ad4 c4 list A5 n5 c5 A6 n6 c6 i x y A7 c7 A8 c8 W' :=
  ⟨blk_below h.bo hb, blk_below h.bc hb, pw_cell_below hb h.k0, pw_cell_below hb h.d0, pw_cell_below hb h.d1, pw_cell_below hb h.d2, pw_cell_below hb h.d3, pw_cell_below hb h.d4⟩
section
variable {w : World} {kd n : Int} {t : ByteArray} {A3 : Option Addr} {c3 : Nat} {keys : List ByteArray} {A4 : Option Addr} {c4 : Nat} {list : List JS} {key : ByteArray} {A15 : Option Addr} {c15 : Nat} {ps : List ByteArray} {go i : Nat} {A5 : Option Addr} {c5 : Nat} {A6 : Option Addr} {c6 : Nat} {W : World}
theorem MoreInv.drew (h : MoreInv w kd n t A3 c3 keys A4 c4 list key A15 c15 ps go i A5 c5 A6 c6 W) : MoreInv w kd n t A3 c3 keys A4 c4 list key A15 c15 ps go i A5 c5 A6 c6 W.drew :=
  { i1 := h.i1, i2 := h.i2, go1 := h.go1, go2 := h.go2, bel := h.bel.drew, bc := h.bc, br := h.br, bo := h.bo, l5 := h.l5, l6 := h.l6, f5 := Kd.F_drew h.f5, f6 := Kd.F_drew h.f6, f15 := Kd.F_drew h.f15, f3 := Kd.F_drew h.f3, f4 := Kd.F_drew h.f4, l15 := h.l15 }
theorem putWrites_blk {W : World} {g : Nat} {a0 a1 a2 a3 a4 : Value} (h : W.heap[g]? = some (.cells #[a0, a1, a2, a3, a4] 25)) (v0 v1 v2 v3 v4 : Value) : (putWrites W g v0 v1 v2 v3 v4).heap[g]? = some (.cells #[v0, v1, v2, v3, v4] 25) := by
  unfold putWrites
  refine blk_put (cs := #[v0, v1, v2, v3, a4]) ?_ 4 _ rfl
  refine blk_put (cs := #[v0, v1, v2, a3, a4]) ?_ 3 _ rfl
  refine blk_put (cs := #[v0, v1, a2, a3, a4]) ?_ 2 _ rfl
  refine blk_put (cs := #[v0, a1, a2, a3, a4]) ?_ 1 _ rfl
  exact blk_put (cs := #[a0, a1, a2, a3, a4]) h 0 _ rfl
theorem putWrites_far {W : World} {g b : Nat} {cs : Array Value} {ty : TypeId} (h : W.heap[b]? = some (.cells cs ty (0, 0))) (hne : b ≠ g) (v0 v1 v2 v3 v4 : Value) : (putWrites W g v0 v1 v2 v3 v4).heap[b]? = some (.cells cs ty (0, 0)) := by
  unfold putWrites
  exact blk_far (blk_far (blk_far (blk_far (blk_far h hne _) hne _) hne _) hne _) hne _
theorem putWrites_F {α : Type} {d : Kd α} {W : World} {g m : Nat} {ok : Nat → Prop} {A : Option Addr} {xs : List α} (h : Kd.F d W ok A m xs) (hok : ∀ k, ok k → k ≠ g) (v0 v1 v2 v3 v4 : Value) : Kd.F d (putWrites W g v0 v1 v2 v3 v4) ok A m xs := by
  unfold putWrites
  exact Kd.F_far (p := ⟨g, 4, none⟩) (Kd.F_far (p := ⟨g, 3, none⟩) (Kd.F_far (p := ⟨g, 2, none⟩) (Kd.F_far (p := ⟨g, 1, none⟩) (Kd.F_far (p := ⟨g, 0, none⟩) h hok _) hok _) hok _) hok _) hok _
theorem putWrites_below {w W : World} {b g : Nat} (h : Below b w W) (hg : b ≤ g) (v0 v1 v2 v3 v4 : Value) : Below b w (putWrites W g v0 v1 v2 v3 v4) := by
  unfold putWrites
  exact ((((h.setCell hg _).setCell hg _).setCell hg _).setCell hg _).setCell hg _
theorem putWrites_size (W : World) (g : Nat) (v0 v1 v2 v3 v4 : Value) : (putWrites W g v0 v1 v2 v3 v4).heap.size = W.heap.size := by
  unfold putWrites; simp [World.setCell]
theorem MoreInv.put (h : MoreInv w kd n t A3 c3 keys A4 c4 list key A15 c15 ps go i A5 c5 A6 c6 W) (h1 : i < keys.length) (h2 : i < list.length) {x : ByteArray} {y : JS} (hs : mPairs keys list key (i + 1) = mPairs keys list key i ++ [(x, y)]) {W7 : World} (hb : Below W.heap.size W W7) {A B : Option Addr} {c d : Nat}
    (h9 : Kd.F Kd.string W7 (fun k => (k ≠ go ∧ k ≠ w.heap.size + 1) ∨ W.heap.size ≤ k) A (sK keys list key i ++ [x]).length (sK keys list key i ++ [x])) (hc9 : (sK keys list key i ++ [x]).length ≤ c) (h10 : Kd.F k25 W7 (fun k => (k ≠ go ∧ k ≠ w.heap.size + 1) ∨ W.heap.size ≤ k) B (sL keys list key i ++ [y]).length (sL keys list key i ++ [y])) (hc10 : (sL keys list key i ++ [y]).length ≤ d) :
    MoreInv w kd n t A3 c3 keys A4 c4 list key A15 c15 ps go (i + 1) A c B d (putWrites W7 go (.int .i64 5) (.int .i64 0) (.string ⟨#[]⟩) (.slice A (sK keys list key i ++ [x]).length c) (.slice B (sL keys list key i ++ [y]).length d)) := by
  have g2 := h.go2
  have g1 := h.go1
  have hok : ∀ k, ((k ≠ go ∧ k ≠ w.heap.size + 1) ∨ W.heap.size ≤ k) → k ≠ go ∧ k ≠ w.heap.size + 1 := fun k hk => by rcases hk with hk | hk <;> omega
  have hid : ∀ k : Nat, k ≠ go ∧ k ≠ w.heap.size + 1 → k ≠ go := fun _ hk => hk.1
  have eK : sK keys list key (i + 1) = sK keys list key i ++ [x] := by simp [sK, mK, hs]
  have eL : sL keys list key (i + 1) = sL keys list key i ++ [y] := by simp [sL, mL, hs]
  have hz := hb.size
  refine { i1 := h1, i2 := h2, go1 := g1, go2 := ?_, bel := ?_, bc := ?_, br := ?_, bo := ?_, l5 := ?_, l6 := ?_, f5 := ?_, f6 := ?_, f15 := ?_, f3 := ?_, f4 := ?_, l15 := h.l15 }
  · rw [putWrites_size]; omega
  · exact putWrites_below (h.bel.trans (hb.mono h.bel.size)) (by omega) _ _ _ _ _
  · exact putWrites_far (blk_below h.bc hb) (by omega) _ _ _ _ _
  · exact putWrites_far (blk_below h.br hb) (by omega) _ _ _ _ _
  · rw [eK, eL]; exact putWrites_blk (blk_below h.bo hb) _ _ _ _ _
  · rw [eK]; exact hc9
  · rw [eL]; exact hc10
  · rw [eK]; exact putWrites_F (Kd.F_mono h9 hok) hid _ _ _ _ _
  · rw [eL]; exact putWrites_F (Kd.F_mono h10 hok) hid _ _ _ _ _
  · exact putWrites_F (Kd.F_below h.f15 hb) hid _ _ _ _ _
  · exact putWrites_F (Kd.F_below h.f3 hb) hid _ _ _ _ _
  · exact putWrites_F (Kd.F_below h.f4 hb) hid _ _ _ _ _
end
theorem mPairs_succ (keys : List ByteArray) (list : List JS) (key : ByteArray) (i : Nat) (h1 : i < keys.length) (h2 : i < list.length) : mPairs keys list key (i + 1) = mPairs keys list key i ++ (if keys[i].toList = key.toList then [] else [(keys[i], list[i])]) := by
  unfold mPairs
  have hz : i < (keys.zip list).length := by rw [List.length_zip]; omega
  rw [List.take_add_one, List.getElem?_eq_getElem hz, List.getElem_zip, List.filter_append]
  congr 1
  by_cases c : keys[i].toList = key.toList
  · simp [c]
  · simp [c]
theorem mPairs_len (keys : List ByteArray) (list : List JS) (key : ByteArray) (i : Nat) : (mPairs keys list key i).length ≤ i := by
  unfold mPairs
  exact Nat.le_trans (List.length_filter_le _ _) (by rw [List.length_take]; omega)
set_option linter.unusedSimpArgs false in
set_option maxRecDepth 100000 in
set_option maxHeartbeats 4000000 in
theorem more_calls (kL : Nat) (kd n : Int) (t : ByteArray) (A3 : Option Addr) (c3 : Nat) (keys : List ByteArray) (A4 : Option Addr) (c4 : Nat) (list : List JS) (key p : ByteArray) (L : List ByteArray) (w : World)
    (hr3 : Kd.C Kd.string w A3 keys.length keys) (hc3 : keys.length ≤ c3) (hr4 : Kd.C k25 w A4 list.length list) (hc4 : list.length ≤ c4) (hk : keys.length ≤ 100000) (hl : list.length ≤ 100000) (hL : agoraref36_List.f kL kd n t keys list key = some L) (hLl : L.length ≤ 100000) :
    Calls Tryd.prog 12 #[.agg #[.int .i64 kd, .int .i64 n, .string t, .slice A3 keys.length c3, .slice A4 list.length c4], .string key, .string p] w fun e w' => ∃ A c B d, e = .returned (.agg #[.int .i64 5, .int .i64 0, .string ⟨#[]⟩, .slice A (mK keys list key keys.length ++ [key]).length c, .slice B (mL keys list key keys.length ++ [strsJ ([p] ++ L)]).length d]) ∧ Below w.heap.size w w' ∧
      Kd.C Kd.string w' A (mK keys list key keys.length ++ [key]).length (mK keys list key keys.length ++ [key]) ∧ (mK keys list key keys.length ++ [key]).length ≤ c ∧ Kd.C k25 w' B (mL keys list key keys.length ++ [strsJ ([p] ++ L)]).length (mL keys list key keys.length ++ [strsJ ([p] ++ L)]) ∧ (mL keys list key keys.length ++ [strsJ ([p] ++ L)]).length ≤ d := by
  go_enter Tryd.func12, Tryd.ntmps12
  have hC := Kd.C_F k25_heap hr4
  have HLs := Lib.hid (fun W hb => agoraref36_List.calls kL kd n t A3 c3 keys A4 c4 list key L W (Kd.C_below hr3 hb) hc3 (Kd.C_below hr4 hb) hc4 hL)
  have HB0 := Lib.hid ((((Below.refl w.heap.size w).alloc (Nat.le_refl _) (.cells #[.int .i64 kd, .int .i64 n, .string t, .slice A3 keys.length c3, .slice A4 list.length c4] 25)).alloc (by simp) (.cells #[.int .i64 0, .int .i64 0, .string ⟨#[]⟩, .slice none 0 0, .slice none 0 0] 25)).alloc (by simp; omega) (.cells #[.string p] 9))
  go_wp2_with fail
  refine (HLs.out _ HB0.out).mono ?_
  rintro e w2 ⟨v2, rfl, hR2, hb2⟩
  obtain ⟨A14, c14, rfl⟩ := Kd.R_slice hR2
  have hS := Kd.R_below (R_single ((w.alloc (.cells #[.int .i64 kd, .int .i64 n, .string t, .slice A3 keys.length c3, .slice A4 list.length c4] 25)).alloc (.cells #[.int .i64 0, .int .i64 0, .string ⟨#[]⟩, .slice none 0 0, .slice none 0 0] 25)) p w.heap.size (w.heap.size + 1 + 1) (by simp) (by simp; omega)) hb2
  have hkc : w2.heap[w.heap.size]? = some (.cells #[.int .i64 kd, .int .i64 n, .string t, .slice A3 keys.length c3, .slice A4 list.length c4] 25) := blk_below (blk_alloc (blk_alloc (blk_new _ _) _) _) hb2
  have hkr : w2.heap[w.heap.size + 1]? = some (.cells #[.int .i64 0, .int .i64 0, .string ⟨#[]⟩, .slice none 0 0, .slice none 0 0] 25) := by
    refine blk_below (blk_alloc ?_ _) hb2
    have h0 := blk_new (w.alloc (.cells #[.int .i64 kd, .int .i64 n, .string t, .slice A3 keys.length c3, .slice A4 list.length c4] 25)) (.cells #[.int .i64 0, .int .i64 0, .string ⟨#[]⟩, .slice none 0 0, .slice none 0 0] 25)
    have hz : (w.alloc (.cells #[.int .i64 kd, .int .i64 n, .string t, .slice A3 keys.length c3, .slice A4 list.length c4] 25)).heap.size = w.heap.size + 1 := by simp
    rw [hz] at h0; exact h0
  have HB2 := Lib.hid (HB0.out.trans (hb2.mono HB0.out.size))
  have HKC := Lib.hid hkc; have HKR := Lib.hid hkr; have HS := Lib.hid hS; have HR2 := Lib.hid hR2
  clear hkc hkr hS hR2 hb2 HB0 HLs
  go_wp2_with ((with_reducible refine gate_builtin (b := .append) (xs := #[.tmp 11, .tmp 14]) rfl ?_); (try (refine gate_guard (by rfl) ?_; dsimp only)); at_builtin; refine Kd.R_append_rows Kd.string (w0 := w) w.heap.size rfl (.tmp 11) (.tmp 14) 22 9 (.string ⟨#[]⟩) 16 rfl Tryd.underlying22 info9 rfl (by decide) (by omega) (.slice (some ⟨w.heap.size + 1 + 1, 0, none⟩) 1 1) [p] L A14 L.length c14 (fun _ => True) (fun _ => False) rfl rfl HS.out (Kd.R_reads' HR2.out).2.2 (fun _ _ h => h) (fun _ h => h.elim) (fun _ _ => trivial) HB2.out HB2.out.size (by simp; omega) ?_; intro v15 w3 ho hb3 hg3 _)
  obtain ⟨A15, c15, rfl⟩ := Kd.R_slice ho
  have hz3 : w.heap.size + 1 < w3.heap.size := blk_lt (blk_grown HKR.out hg3 (by simp [Value.ownBlock]))
  have hM : MoreInv w kd n t A3 c3 keys A4 c4 list key A15 c15 ([p] ++ L) w3.heap.size 0 none 0 none 0 (w3.alloc (.cells #[.int .i64 5, .int .i64 0, .string ⟨#[]⟩, .slice none 0 0, .slice none 0 0] 25)) := by
    have hlt : ∀ (α : Type) (d : Kd α) (A : Option Addr) (m : Nat) (xs : List α), Kd.F d w (fun k => k < w.heap.size) A m xs → Kd.F d (w3.alloc (.cells #[.int .i64 5, .int .i64 0, .string ⟨#[]⟩, .slice none 0 0, .slice none 0 0] 25)) (fun k => k ≠ w3.heap.size ∧ k ≠ w.heap.size + 1) A m xs := fun α d A m xs h =>
      Kd.F_mono (Kd.F_alloc (Kd.F_below h hb3) _) (fun k hk => by omega)
    refine { i1 := Nat.zero_le _, i2 := Nat.zero_le _, go1 := hz3, go2 := by simp, bel := hb3.alloc hb3.size _, bc := ?_, br := ?_, bo := blk_new _ _, l5 := Nat.le_refl _, l6 := Nat.le_refl _, f5 := Kd.F_nil _ _ _, f6 := Kd.F_nil _ _ _, f15 := ?_, f3 := hlt _ _ _ _ _ (Kd.C_F Kd.heap_string hr3), f4 := hlt _ _ _ _ _ hC, l15 := (Kd.R_reads' ho).2.1 }
    · exact blk_alloc (blk_grown HKC.out hg3 (by simp [Value.ownBlock]; omega)) _
    · exact blk_alloc (blk_grown HKR.out hg3 (by simp [Value.ownBlock])) _
    · exact Kd.F_alloc (Kd.R_F (Kd.R_flat (ok' := fun k => k ≠ w3.heap.size ∧ k ≠ w.heap.size + 1) flat_string ho (fun k hk _ => ⟨by have := Kd.R_lt ho k hk; omega, fun he => Kd.R_ne ho (blk_grown HKR.out hg3 (by simp [Value.ownBlock])) (by decide) (by rw [hk, he])⟩))) _
  clear hb3 hg3 ho HB2 HKC HKR HS HR2 hC hr3 hr4 hL
  generalize w3.alloc (.cells #[.int .i64 5, .int .i64 0, .string ⟨#[]⟩, .slice none 0 0, .slice none 0 0] 25) = w4 at hM ⊢
  generalize w3.heap.size = go at hM hz3 ⊢
  clear w3
  have HM := Lib.hid hM; clear hM
  go_loopw [9] (fun vi wr => ∃ (i : Nat) (A5 : Option Addr) (c5 : Nat) (A6 : Option Addr) (c6 : Nat), vi = .int .i64 i ∧ Hid (MoreInv w kd n t A3 c3 keys A4 c4 list key A15 c15 ([p] ++ L) go i A5 c5 A6 c6 wr)) (fun vi _ => keys.length - (intOf vi).toNat)
  case atStart => exact ⟨0, none, 0, none, 0, rfl, HM⟩
  case round =>
    obtain ⟨i, A5, c5, A6, c6, rfl, HI⟩ := hrel
    clear HM
    have c0 : wr.cell? ⟨w.heap.size, 0, none⟩ = some (.int .i64 kd) := (blk_cell HI.out.bc 0).trans rfl
    have c1 : wr.cell? ⟨w.heap.size, 1, none⟩ = some (.int .i64 n) := (blk_cell HI.out.bc 1).trans rfl
    have c2 : wr.cell? ⟨w.heap.size, 2, none⟩ = some (.string t) := (blk_cell HI.out.bc 2).trans rfl
    have c3' : wr.cell? ⟨w.heap.size, 3, none⟩ = some (.slice A3 keys.length c3) := (blk_cell HI.out.bc 3).trans rfl
    have c4' : wr.cell? ⟨w.heap.size, 4, none⟩ = some (.slice A4 list.length c4) := (blk_cell HI.out.bc 4).trans rfl
    by_cases h1 : i < keys.length
    · have b1 : decide ((i : Int) < (keys.length : Int)) = true := decide_eq_true (by omega)
      by_cases h2 : i < list.length
      · have b2 : decide ((i : Int) < (list.length : Int)) = true := decide_eq_true (by omega)
        obtain ⟨ad, rfl, g0⟩ := Kd.at_string (Kd.F_now HI.out.f3) (i : Int) (by omega) (by omega)
        have hrd : rdOf ByteArray.empty keys (i : Int) = keys[i] := by simp [rdOf, h1]
        rw [hrd, Int.toNat_natCast] at g0
        clear hrd
        have hsuc := mPairs_succ keys list key i h1 h2
        by_cases he : keys[i].toList = key.toList
        · have b3 : (keys[i].toList != key.toList) = false := by simp [he]
          have b3' : (keys[i].toList == key.toList) = true := by simp [he]
          rw [if_pos he, List.append_nil] at hsuc
          have HI2 : Hid (MoreInv w kd n t (some ad) c3 keys A4 c4 list key A15 c15 ([p] ++ L) go (i + 1) A5 c5 A6 c6 wr) := by
            obtain ⟨q1, q2, q3, q4, q5, q6, q7, q8, q9, q10, q11, q12, q13, q14, q15, q16⟩ := HI.out
            exact Lib.hid (by constructor <;> first | assumption | omega | (simp only [sK, sL, mK, mL] at *; rw [hsuc]; assumption))
          clear HI hsuc he
          generalize keys[i] = x at g0 b3 b3'
          go_wp2
          go_roundw
          case rel => exact ⟨i + 1, A5, c5, A6, c6, by simp, HI2⟩
          case measure => simp [intOf]; omega
        · have b3 : (keys[i].toList != key.toList) = true := by simp [he]
          have b3' : (keys[i].toList == key.toList) = false := by simp [he]
          rw [if_neg he] at hsuc
          obtain ⟨ad4, cs4, rfl, hcl, hK4, hcc4, -⟩ := Kd.F_get HI.out.f4 z25 (i : Int) (by omega) (by omega)
          have hgd : list.getD (i : Int).toNat z25 = list[i] := by simp [h2]
          rw [hgd] at hK4
          clear hgd
          obtain ⟨A7, c7, A8, c8, rfl, l7, f7, l8, f8⟩ := k25_openF hK4
          rw [Int.toNat_natCast] at hcc4
          have d0 : wr.cell? (ad4.add (i * 5)) = some (.int .i64 list[i].f0) := hcc4 0 _ rfl
          have d1 : wr.cell? ⟨(ad4.add (i * 5)).block, (ad4.add (i * 5)).off + 1, none⟩ = some (.int .i64 list[i].f1) := by rw [← add_field _ _ 1 (by omega)]; exact hcc4 1 _ rfl
          have d2 : wr.cell? ⟨(ad4.add (i * 5)).block, (ad4.add (i * 5)).off + 2, none⟩ = some (.string list[i].f2) := by rw [← add_field _ _ 2 (by omega)]; exact hcc4 2 _ rfl
          have d3 : wr.cell? ⟨(ad4.add (i * 5)).block, (ad4.add (i * 5)).off + 3, none⟩ = some (.slice A7 list[i].f3.length c7) := by rw [← add_field _ _ 3 (by omega)]; exact hcc4 3 _ rfl
          have d4 : wr.cell? ⟨(ad4.add (i * 5)).block, (ad4.add (i * 5)).off + 4, none⟩ = some (.slice A8 list[i].f4.length c8) := by rw [← add_field _ _ 4 (by omega)]; exact hcc4 4 _ rfl
          have e0 : wr.cell? ⟨go, 0, none⟩ = some (.int .i64 5) := (blk_cell HI.out.bo 0).trans rfl
          have e1 : wr.cell? ⟨go, 1, none⟩ = some (.int .i64 0) := (blk_cell HI.out.bo 1).trans rfl
          have e2 : wr.cell? ⟨go, 2, none⟩ = some (.string ⟨#[]⟩) := (blk_cell HI.out.bo 2).trans rfl
          have e3 : wr.cell? ⟨go, 3, none⟩ = some (.slice A5 (sK keys list key i).length c5) := (blk_cell HI.out.bo 3).trans rfl
          have e4 : wr.cell? ⟨go, 4, none⟩ = some (.slice A6 (sL keys list key i).length c6) := (blk_cell HI.out.bo 4).trans rfl
          have hml := mPairs_len keys list key i
          have hP := Put_F (fun k => k ≠ go ∧ k ≠ w.heap.size + 1) 5 0 ⟨#[]⟩ A5 c5 (sK keys list key i) A6 c6 (sL keys list key i) keys[i] list[i] A7 c7 A8 c8 wr.drew (Kd.F_now (Kd.F_drew HI.out.f5)) HI.out.l5 (Kd.F_drew HI.out.f6) HI.out.l6 (by simp only [sK, List.length_map]; omega) (by simp only [sL, List.length_map]; omega) (Kd.F_drew f7) l7 (Kd.F_drew f8) l8
          have HP := Lib.hid hP
          clear hP hcc4 hK4 hcl f7 f8 l7 l8
          generalize list[i] = y at *
          generalize keys[i] = x at *
          have HSS : MoreS w.heap.size go kd n t ad c3 keys ad4 c4 list A5 (sK keys list key i).length c5 A6 (sL keys list key i).length c6 i x y A7 c7 A8 c8 wr.drew := ⟨HI.out.bo, HI.out.bc, g0, d0, d1, d2, d3, d4⟩
          go_wp2_with fail
          refine start_ (n := 13) (S := MoreS w.heap.size go kd n t ad c3 keys ad4 c4 list A5 (sK keys list key i).length c5 A6 (sL keys list key i).length c6 i x y A7 c7 A8 c8) (ds := [12]) #[false, false, false, false, false, false, false, false, false, false, false, false, false] (by kernel_rfl) rfl rfl HSS (fun hHeld => ?_); refine with_tabW moreTab7 moreBits7 (fun HT_ HW_ => ?_)
          have HD := Lib.hid (HI.out.drew)
          generalize wr.drew = w5 at HD HP hHeld ⊢
          clear HI c0 c1 c2 c3' c4' g0 d0 d1 d2 d3 d4 e0 e1 e2 e3 e4 HSS
          have i0 : (0 : Int) ≤ (i : Int) := by omega
          have i1 : (i : Int) < (keys.length : Int) := by omega
          have i2 : (i : Int) < (list.length : Int) := by omega
          have hf4 : list.length ≤ 9223372036854775807 := by omega
          have hf3 : keys.length ≤ 9223372036854775807 := by omega
          refine take_ (i := 0) (N := some 38) (v := ?_) (a' := ?_) #[true, false, false, false, false, false, false, false, false, false, false, false, false] rfl rfl (take_ofW HT_.out HW_.out (by kernel_rfl)) (fun _ _ _ h => h) (Or.inl ⟨by rfl, ?_⟩) hHeld ?_ ?_
          rotate_left
          · intro w' s0
            have s00 : w'.cell? ⟨go, 0, none⟩ = some (.int .i64 5) := (blk_cell s0.bo 0).trans rfl
            have s01 : w'.cell? ⟨go, 1, none⟩ = some (.int .i64 0) := (blk_cell s0.bo 1).trans rfl
            have s02 : w'.cell? ⟨go, 2, none⟩ = some (.string ⟨#[]⟩) := (blk_cell s0.bo 2).trans rfl
            have s03 : w'.cell? ⟨go, 3, none⟩ = some (.slice A5 (sK keys list key i).length c5) := (blk_cell s0.bo 3).trans rfl
            have s04 : w'.cell? ⟨go, 4, none⟩ = some (.slice A6 (sL keys list key i).length c6) := (blk_cell s0.bo 4).trans rfl
            go_simp
            with_reducible rfl
          rotate_left
          · simp only [Act.put, List.setIfInBounds_toArray, List.set_cons_zero, List.set_cons_succ, i64_w, i32_w]
            rfl
          refine pure_ (i := 1) (N := some 39) (v := ?_) (a' := ?_) #[true, true, false, false, false, false, false, false, false, false, false, false, false] rfl rfl (any_of HT_.out (by kernel_rfl)) (fun _ _ _ h => h) (Or.inl ⟨by rfl, ?_⟩) ?_ ?_
          rotate_left
          · intro w'
            go_simp
            with_reducible rfl
          rotate_left
          · simp only [Act.put, List.setIfInBounds_toArray, List.set_cons_zero, List.set_cons_succ, i64_w, i32_w]
            rfl
          refine take_ (i := 2) (N := some 40) (v := ?_) (a' := ?_) #[true, true, true, false, false, false, false, false, false, false, false, false, false] rfl rfl (take_ofW HT_.out HW_.out (by kernel_rfl)) (fun _ _ _ h => h) (Or.inl ⟨by rfl, ?_⟩) hHeld ?_ ?_
          rotate_left
          · intro w' s0
            have s03 : w'.cell? ⟨w.heap.size, 3, none⟩ = some (.slice (some ad) keys.length c3) := (blk_cell s0.bc 3).trans rfl
            go_simp
            with_reducible rfl
          rotate_left
          · simp only [Act.put, List.setIfInBounds_toArray, List.set_cons_zero, List.set_cons_succ, i64_w, i32_w]
            rfl
          refine pure_ (i := 3) (N := some 41) (v := ?_) (a' := ?_) #[true, true, true, true, false, false, false, false, false, false, false, false, false] rfl rfl (any_of HT_.out (by kernel_rfl)) (fun _ _ _ h => h) (Or.inl ⟨by rfl, ?_⟩) ?_ ?_
          rotate_left
          · intro w'
            go_simp
            with_reducible rfl
          rotate_left
          · simp only [Act.put, List.setIfInBounds_toArray, List.set_cons_zero, List.set_cons_succ, i64_w, i32_w]
            rfl
          refine pure_ (i := 4) (N := some 42) (v := ?_) (a' := ?_) #[true, true, true, true, true, false, false, false, false, false, false, false, false] rfl rfl (any_of HT_.out (by kernel_rfl)) (fun _ _ _ h => h) (Or.inl ⟨by rfl, ?_⟩) ?_ ?_
          rotate_left
          · intro w'
            go_simp
            with_reducible rfl
          rotate_left
          · simp only [Act.put, List.setIfInBounds_toArray, List.set_cons_zero, List.set_cons_succ, i64_w, i32_w]
            rfl
          refine take_ (i := 5) (N := some 43) (v := ?_) (a' := ?_) #[true, true, true, true, true, true, false, false, false, false, false, false, false] rfl rfl (take_ofW HT_.out HW_.out (by kernel_rfl)) (fun _ _ _ h => h) (Or.inl ⟨by rfl, ?_⟩) hHeld ?_ ?_
          rotate_left
          · intro w' s0
            have s03 := s0.k0
            go_simp
            with_reducible rfl
          rotate_left
          · simp only [Act.put, List.setIfInBounds_toArray, List.set_cons_zero, List.set_cons_succ, i64_w, i32_w]
            rfl
          refine pure_ (i := 6) (N := some 44) (v := ?_) (a' := ?_) #[true, true, true, true, true, true, true, false, false, false, false, false, false] rfl rfl (any_of HT_.out (by kernel_rfl)) (fun _ _ _ h => h) (Or.inl ⟨by rfl, ?_⟩) ?_ ?_
          rotate_left
          · intro w'
            go_simp
            with_reducible rfl
          rotate_left
          · simp only [Act.put, List.setIfInBounds_toArray, List.set_cons_zero, List.set_cons_succ, i64_w, i32_w]
            rfl
          refine take_ (i := 7) (N := some 45) (v := ?_) (a' := ?_) #[true, true, true, true, true, true, true, true, false, false, false, false, false] rfl rfl (take_ofW HT_.out HW_.out (by kernel_rfl)) (fun _ _ _ h => h) (Or.inl ⟨by rfl, ?_⟩) hHeld ?_ ?_
          rotate_left
          · intro w' s0
            have s03 : w'.cell? ⟨w.heap.size, 4, none⟩ = some (.slice (some ad4) list.length c4) := (blk_cell s0.bc 4).trans rfl
            go_simp
            with_reducible rfl
          rotate_left
          · simp only [Act.put, List.setIfInBounds_toArray, List.set_cons_zero, List.set_cons_succ, i64_w, i32_w]
            rfl
          refine pure_ (i := 8) (N := some 46) (v := ?_) (a' := ?_) #[true, true, true, true, true, true, true, true, true, false, false, false, false] rfl rfl (any_of HT_.out (by kernel_rfl)) (fun _ _ _ h => h) (Or.inl ⟨by rfl, ?_⟩) ?_ ?_
          rotate_left
          · intro w'
            go_simp
            with_reducible rfl
          rotate_left
          · simp only [Act.put, List.setIfInBounds_toArray, List.set_cons_zero, List.set_cons_succ, i64_w, i32_w]
            rfl
          refine pure_ (i := 9) (N := some 47) (v := ?_) (a' := ?_) #[true, true, true, true, true, true, true, true, true, true, false, false, false] rfl rfl (any_of HT_.out (by kernel_rfl)) (fun _ _ _ h => h) (Or.inl ⟨by rfl, ?_⟩) ?_ ?_
          rotate_left
          · intro w'
            go_simp
            with_reducible rfl
          rotate_left
          · simp only [Act.put, List.setIfInBounds_toArray, List.set_cons_zero, List.set_cons_succ, i64_w, i32_w]
            rfl
          refine take_ (i := 10) (N := some 48) (v := ?_) (a' := ?_) #[true, true, true, true, true, true, true, true, true, true, true, false, false] rfl rfl (take_ofW HT_.out HW_.out (by kernel_rfl)) (fun _ _ _ h => h) (Or.inl ⟨by rfl, ?_⟩) hHeld ?_ ?_
          rotate_left
          · intro w' s0
            have s00 := s0.d0
            have s01 := s0.d1
            have s02 := s0.d2
            have s03 := s0.d3
            have s04 := s0.d4
            go_simp
            with_reducible rfl
          rotate_left
          · simp only [Act.put, List.setIfInBounds_toArray, List.set_cons_zero, List.set_cons_succ, i64_w, i32_w]
            rfl
          refine one_ (i := 11) (N := some 49) #[true, true, true, true, true, true, true, true, true, true, true, true, false] rfl rfl (one_of HT_.out (by kernel_rfl)) (by decide) (fun K hK => ?_)
          refine goes_ Tryd.func13 (by kernel_rfl) rfl #[.agg #[.int .i64 5, .int .i64 0, .string ⟨#[]⟩, .slice A5 (sK keys list key i).length c5, .slice A6 (sL keys list key i).length c6], .string x, .agg #[.int .i64 y.f0, .int .i64 y.f1, .string y.f2, .slice A7 y.f3.length c7, .slice A8 y.f4.length c8]] (by rfl) rfl rfl (by (simp only [List.map_toArray, List.map_cons, List.map_nil]); rfl) ?_
          refine HP.out.mono ?_
          rintro e w7 ⟨A9, c9, B9, d9, rfl, hb7, h9, hc9, h10, hc10⟩
          refine ⟨_, rfl, ?_⟩
          have HN := Lib.hid (HD.out.put h1 h2 hsuc hb7 h9 hc9 h10 hc10)
          have hgo := blk_below HD.out.bo hb7
          refine hK.out _ _ (hHeld.below hb7) (fun hHeld => ?_)
          clear hK K h9 h10 hc9 hc10 HP
          refine norm_ (a' := ?_) ?_ ?_
          rotate_left
          · show Act.put _ (some 49) _ = _
            simp only [Act.put, List.setIfInBounds_toArray, List.set_cons_zero, List.set_cons_succ, i64_w, i32_w]
            rfl
          have hs0 : w7.cell? ⟨go, 0, none⟩ = some (.int .i64 5) := (blk_cell hgo 0).trans rfl
          have hs1 : w7.cell? ⟨go, 1, none⟩ = some (.int .i64 0) := (blk_cell hgo 1).trans rfl
          have hs2 : w7.cell? ⟨go, 2, none⟩ = some (.string ⟨#[]⟩) := (blk_cell hgo 2).trans rfl
          have hs3 : w7.cell? ⟨go, 3, none⟩ = some (.slice A5 (sK keys list key i).length c5) := (blk_cell hgo 3).trans rfl
          have hs4 : w7.cell? ⟨go, 4, none⟩ = some (.slice A6 (sL keys list key i).length c6) := (blk_cell hgo 4).trans rfl
          have hf0 := blk_frozen hgo 0; have hf1 := blk_frozen hgo 1; have hf2 := blk_frozen hgo 2; have hf3 := blk_frozen hgo 3; have hf4 := blk_frozen hgo 4
          refine last_ (i := 12) (N := none) #[true, true, true, true, true, true, true, true, true, true, true, true, true] rfl rfl (one_of HT_.out (by kernel_rfl)) (by decide) (fun K hK => ?_)
          refine skip_ (w1 := putWrites w7 go (.int .i64 5) (.int .i64 0) (.string ⟨#[]⟩) (.slice A9 (sK keys list key i ++ [x]).length c9) (.slice B9 (sL keys list key i ++ [y]).length d9)) (by rfl) rfl ?_ ?_
          · go_simp
            rfl
          refine hK.out _ _ ?_
          clear hK K
          refine done_ (by kernel_rfl) ?_
          generalize putWrites w7 go (.int .i64 5) (.int .i64 0) (.string ⟨#[]⟩) (.slice A9 (sK keys list key i ++ [x]).length c9) (.slice B9 (sL keys list key i ++ [y]).length d9) = w8 at HN ⊢
          clear hs0 hs1 hs2 hs3 hs4 hf0 hf1 hf2 hf3 hf4 hgo hb7 hHeld HD
          go_wp2
          go_roundw
          case rel => exact ⟨i + 1, A9, c9, B9, d9, by simp, HN⟩
          case measure => simp [intOf]; omega
      · have b2 : decide ((i : Int) < (list.length : Int)) = false := decide_eq_false (by omega)
        have hmin : min keys.length list.length ≤ i := by omega
        have hml := mPairs_len keys list key i
        have hi1 := HI.out.i1
        have BC := HI.out.bo
        go_wp2_with fail
        refine start_ (n := 6) (S := (fun w' => w'.heap[go]? = some (.cells #[.int .i64 5, .int .i64 0, .string ⟨#[]⟩, .slice A5 (sK keys list key i).length c5, .slice A6 (sL keys list key i).length c6] 25))) (ds := [5]) #[false, false, false, false, false, false] (by kernel_rfl) rfl rfl (blk_drew BC) (fun hHeld => ?_); refine with_tabW moreTab8 moreBits8 (fun HT_ HW_ => ?_)
        have HD := Lib.hid (HI.out.drew)
        clear BC HI c0 c1 c2 c3' c4'
        generalize wr.drew = w5 at HD hHeld ⊢
        refine take_ (i := 0) (N := some 50) (v := ?_) (a' := ?_) #[true, false, false, false, false, false] rfl rfl (take_ofW HT_.out HW_.out (by kernel_rfl)) (fun _ _ _ h => h) (Or.inl ⟨by rfl, ?_⟩) hHeld ?_ ?_
        rotate_left
        · intro w' s0
          have s00 : w'.cell? ⟨go, 0, none⟩ = some (.int .i64 5) := (blk_cell s0 0).trans rfl
          have s01 : w'.cell? ⟨go, 1, none⟩ = some (.int .i64 0) := (blk_cell s0 1).trans rfl
          have s02 : w'.cell? ⟨go, 2, none⟩ = some (.string ⟨#[]⟩) := (blk_cell s0 2).trans rfl
          have s03 : w'.cell? ⟨go, 3, none⟩ = some (.slice A5 (sK keys list key i).length c5) := (blk_cell s0 3).trans rfl
          have s04 : w'.cell? ⟨go, 4, none⟩ = some (.slice A6 (sL keys list key i).length c6) := (blk_cell s0 4).trans rfl
          go_simp
          with_reducible rfl
        rotate_left
        · simp only [Act.put, List.setIfInBounds_toArray, List.set_cons_zero, List.set_cons_succ, i64_w, i32_w]
          rfl
        refine pure_ (i := 1) (N := some 51) (v := ?_) (a' := ?_) #[true, true, false, false, false, false] rfl rfl (any_of HT_.out (by kernel_rfl)) (fun _ _ _ h => h) (Or.inl ⟨by rfl, ?_⟩) ?_ ?_
        rotate_left
        · intro w'
          go_simp
          with_reducible rfl
        rotate_left
        · simp only [Act.put, List.setIfInBounds_toArray, List.set_cons_zero, List.set_cons_succ, i64_w, i32_w]
          rfl
        refine pure_ (i := 2) (N := some 52) (v := ?_) (a' := ?_) #[true, true, true, false, false, false] rfl rfl (any_of HT_.out (by kernel_rfl)) (fun _ _ _ h => h) (Or.inl ⟨by rfl, ?_⟩) ?_ ?_
        rotate_left
        · intro w'
          go_simp
          with_reducible rfl
        rotate_left
        · simp only [Act.put, List.setIfInBounds_toArray, List.set_cons_zero, List.set_cons_succ, i64_w, i32_w]
          rfl
        have hS2 := strs_calls A15 c15 ([p] ++ L) (by simp; omega) w5 (Kd.F_now HD.out.f15) HD.out.l15
        refine one_ (i := 3) (N := some 53) #[true, true, true, true, false, false] rfl rfl (one_of HT_.out (by kernel_rfl)) (by decide) (fun K hK => ?_)
        refine goes_ Tryd.func27 (by kernel_rfl) rfl #[.slice A15 ([p] ++ L).length c15] (by rfl) rfl rfl (by (simp only [List.map_toArray, List.map_cons, List.map_nil]); rfl) ?_
        refine hS2.mono ?_
        rintro e w6 ⟨A7, c7, A8, c8, rfl, hb6, h7, h8, hc8⟩
        refine ⟨_, rfl, ?_⟩
        have g1 := HD.out.go1
        have g2 := HD.out.go2
        have hz6 := hb6.size
        have hgo := blk_below HD.out.bo hb6
        have hgr := blk_below HD.out.br hb6
        have hB6 := HD.out.bel.trans (hb6.mono HD.out.bel.size)
        have hlen : ([p] ++ L).length = (strsJ ([p] ++ L)).f4.length := by simp [strsJ]
        have h8' : Kd.F k25 w6 (fun k => k ≠ go ∧ k ≠ w.heap.size + 1) A8 (strsJ ([p] ++ L)).f4.length (strsJ ([p] ++ L)).f4 := by
          rw [← hlen]; exact Kd.F_mono h8 (fun k hk => by omega)
        have hP2 := Put_F (fun k => k ≠ go ∧ k ≠ w.heap.size + 1) 5 0 ⟨#[]⟩ A5 c5 (sK keys list key i) A6 c6 (sL keys list key i) key (strsJ ([p] ++ L)) A7 c7 A8 c8 w6 (Kd.F_now (Kd.F_below HD.out.f5 hb6)) HD.out.l5 (Kd.F_below HD.out.f6 hb6) HD.out.l6 (by simp only [sK, List.length_map]; omega) (by simp only [sL, List.length_map]; omega) (Kd.F_mono h7 (fun k hk => by omega)) (Nat.zero_le _) h8' (by rw [← hlen]; exact hc8)
        have HP2 := Lib.hid hP2
        refine hK.out _ _ (blk_below hHeld hb6) (fun hHeld => ?_)
        clear hK K hS2 hP2 h7 h8 h8' HD
        refine norm_ (a' := ?_) ?_ ?_
        rotate_left
        · show Act.put _ (some 53) _ = _
          simp only [Act.put, List.setIfInBounds_toArray, List.set_cons_zero, List.set_cons_succ, i64_w, i32_w]
          rfl
        refine one_ (i := 4) (N := some 54) #[true, true, true, true, true, false] rfl rfl (one_of HT_.out (by kernel_rfl)) (by decide) (fun K hK => ?_)
        refine goes_ Tryd.func13 (by kernel_rfl) rfl #[.agg #[.int .i64 5, .int .i64 0, .string ⟨#[]⟩, .slice A5 (sK keys list key i).length c5, .slice A6 (sL keys list key i).length c6], .string key, .agg #[.int .i64 4, .int .i64 0, .string ⟨#[]⟩, .slice A7 0 c7, .slice A8 ([p] ++ L).length c8]] (by rfl) rfl rfl (by (simp only [List.map_toArray, List.map_cons, List.map_nil]); rfl) ?_
        have hP3 := HP2.out
        simp only [strsJ, List.length_map, List.length_nil] at hP3
        refine hP3.mono ?_
        rintro e w7 ⟨A9, c9, B9, d9, rfl, hb7, h9, hc9, h10, hc10⟩
        refine ⟨_, rfl, ?_⟩
        have hB7 := hB6.trans (hb7.mono hB6.size)
        have hgr7 := blk_below hgr hb7
        refine hK.out _ _ (blk_below hHeld hb7) (fun hHeld => ?_)
        clear hK K HP2 hP3 hB6 hgr hb6
        refine norm_ (a' := ?_) ?_ ?_
        rotate_left
        · show Act.put _ (some 54) _ = _
          simp only [Act.put, List.setIfInBounds_toArray, List.set_cons_zero, List.set_cons_succ, i64_w, i32_w]
          rfl
        have hs0 : w7.cell? ⟨w.heap.size + 1, 0, none⟩ = some (.int .i64 0) := (blk_cell hgr7 0).trans rfl
        have hs1 : w7.cell? ⟨w.heap.size + 1, 1, none⟩ = some (.int .i64 0) := (blk_cell hgr7 1).trans rfl
        have hs2 : w7.cell? ⟨w.heap.size + 1, 2, none⟩ = some (.string ⟨#[]⟩) := (blk_cell hgr7 2).trans rfl
        have hs3 : w7.cell? ⟨w.heap.size + 1, 3, none⟩ = some (.slice none 0 0) := (blk_cell hgr7 3).trans rfl
        have hs4 : w7.cell? ⟨w.heap.size + 1, 4, none⟩ = some (.slice none 0 0) := (blk_cell hgr7 4).trans rfl
        have hf0 := blk_frozen hgr7 0; have hf1 := blk_frozen hgr7 1; have hf2 := blk_frozen hgr7 2; have hf3 := blk_frozen hgr7 3; have hf4 := blk_frozen hgr7 4
        refine last_ (i := 5) (N := none) #[true, true, true, true, true, true] rfl rfl (one_of HT_.out (by kernel_rfl)) (by decide) (fun K hK => ?_)
        refine skip_ (w1 := putWrites w7 (w.heap.size + 1) (.int .i64 5) (.int .i64 0) (.string ⟨#[]⟩) (.slice A9 (sK keys list key i ++ [key]).length c9) (.slice B9 (sL keys list key i ++ [strsJ ([p] ++ L)]).length d9)) (by rfl) rfl ?_ ?_
        · go_simp
          rfl
        refine hK.out _ _ ?_
        clear hK K
        refine done_ (by kernel_rfl) ?_
        have hput := putWrites_blk hgr7 (.int .i64 5) (.int .i64 0) (.string ⟨#[]⟩) (.slice A9 (sK keys list key i ++ [key]).length c9) (.slice B9 (sL keys list key i ++ [strsJ ([p] ++ L)]).length d9)
        have hB9 := putWrites_below hB7 (show w.heap.size ≤ w.heap.size + 1 by omega) (.int .i64 5) (.int .i64 0) (.string ⟨#[]⟩) (.slice A9 (sK keys list key i ++ [key]).length c9) (.slice B9 (sL keys list key i ++ [strsJ ([p] ++ L)]).length d9)
        have hne : ∀ k, ((k ≠ go ∧ k ≠ w.heap.size + 1) ∨ w6.heap.size ≤ k) → k ≠ w.heap.size + 1 := fun k hk => by rcases hk with hk | hk <;> omega
        have F9 := Kd.F_now (putWrites_F h9 hne (.int .i64 5) (.int .i64 0) (.string ⟨#[]⟩) (.slice A9 (sK keys list key i ++ [key]).length c9) (.slice B9 (sL keys list key i ++ [strsJ ([p] ++ L)]).length d9))
        have F10 := Kd.F_now (putWrites_F h10 hne (.int .i64 5) (.int .i64 0) (.string ⟨#[]⟩) (.slice A9 (sK keys list key i ++ [key]).length c9) (.slice B9 (sL keys list key i ++ [strsJ ([p] ++ L)]).length d9))
        generalize putWrites w7 (w.heap.size + 1) (.int .i64 5) (.int .i64 0) (.string ⟨#[]⟩) (.slice A9 (sK keys list key i ++ [key]).length c9) (.slice B9 (sL keys list key i ++ [strsJ ([p] ++ L)]).length d9) = w8 at hput hB9 F9 F10 ⊢
        clear h9 h10 hs0 hs1 hs2 hs3 hs4 hf0 hf1 hf2 hf3 hf4
        try go_wp2
        refine bodyPost_ret (results_cell_row rfl _ _ (w.heap.size + 1) 25 #[.int .i64 5, .int .i64 0, .string ⟨#[]⟩, .slice A9 (sK keys list key i ++ [key]).length c9, .slice B9 (sL keys list key i ++ [strsJ ([p] ++ L)]).length d9] (0, 0) _ rfl hput Tryd.underlying25 rfl (by kernel_rfl)) rfl ?_
        have eP : mPairs keys list key keys.length = mPairs keys list key i := by rw [mPairs_all _ _ _ _ hmin, mPairs_all _ _ _ _ (Nat.min_le_left _ _)]
        have eK : sK keys list key i = mK keys list key keys.length := by simp only [sK, mK, eP]
        have eL : sL keys list key i = mL keys list key keys.length := by simp only [sL, mL, eP]
        rw [eK] at F9 hc9
        rw [eL] at F10 hc10
        refine ⟨A9, c9, B9, d9, ?_, hB9, F9, hc9, F10, hc10⟩
        rw [eK, eL]
        rfl
    · have b1 : decide ((i : Int) < (keys.length : Int)) = false := decide_eq_false (by omega)
      have hmin : min keys.length list.length ≤ i := by omega
      have hml := mPairs_len keys list key i
      have hi1 := HI.out.i1
      have BC := HI.out.bo
      go_wp2_with fail
      refine start_ (n := 6) (S := (fun w' => w'.heap[go]? = some (.cells #[.int .i64 5, .int .i64 0, .string ⟨#[]⟩, .slice A5 (sK keys list key i).length c5, .slice A6 (sL keys list key i).length c6] 25))) (ds := [5]) #[false, false, false, false, false, false] (by kernel_rfl) rfl rfl (blk_drew BC) (fun hHeld => ?_); refine with_tabW moreTab8 moreBits8 (fun HT_ HW_ => ?_)
      have HD := Lib.hid (HI.out.drew)
      clear BC HI c0 c1 c2 c3' c4'
      generalize wr.drew = w5 at HD hHeld ⊢
      refine take_ (i := 0) (N := some 50) (v := ?_) (a' := ?_) #[true, false, false, false, false, false] rfl rfl (take_ofW HT_.out HW_.out (by kernel_rfl)) (fun _ _ _ h => h) (Or.inl ⟨by rfl, ?_⟩) hHeld ?_ ?_
      rotate_left
      · intro w' s0
        have s00 : w'.cell? ⟨go, 0, none⟩ = some (.int .i64 5) := (blk_cell s0 0).trans rfl
        have s01 : w'.cell? ⟨go, 1, none⟩ = some (.int .i64 0) := (blk_cell s0 1).trans rfl
        have s02 : w'.cell? ⟨go, 2, none⟩ = some (.string ⟨#[]⟩) := (blk_cell s0 2).trans rfl
        have s03 : w'.cell? ⟨go, 3, none⟩ = some (.slice A5 (sK keys list key i).length c5) := (blk_cell s0 3).trans rfl
        have s04 : w'.cell? ⟨go, 4, none⟩ = some (.slice A6 (sL keys list key i).length c6) := (blk_cell s0 4).trans rfl
        go_simp
        with_reducible rfl
      rotate_left
      · simp only [Act.put, List.setIfInBounds_toArray, List.set_cons_zero, List.set_cons_succ, i64_w, i32_w]
        rfl
      refine pure_ (i := 1) (N := some 51) (v := ?_) (a' := ?_) #[true, true, false, false, false, false] rfl rfl (any_of HT_.out (by kernel_rfl)) (fun _ _ _ h => h) (Or.inl ⟨by rfl, ?_⟩) ?_ ?_
      rotate_left
      · intro w'
        go_simp
        with_reducible rfl
      rotate_left
      · simp only [Act.put, List.setIfInBounds_toArray, List.set_cons_zero, List.set_cons_succ, i64_w, i32_w]
        rfl
      refine pure_ (i := 2) (N := some 52) (v := ?_) (a' := ?_) #[true, true, true, false, false, false] rfl rfl (any_of HT_.out (by kernel_rfl)) (fun _ _ _ h => h) (Or.inl ⟨by rfl, ?_⟩) ?_ ?_
      rotate_left
      · intro w'
        go_simp
        with_reducible rfl
      rotate_left
      · simp only [Act.put, List.setIfInBounds_toArray, List.set_cons_zero, List.set_cons_succ, i64_w, i32_w]
        rfl
      have hS2 := strs_calls A15 c15 ([p] ++ L) (by simp; omega) w5 (Kd.F_now HD.out.f15) HD.out.l15
      refine one_ (i := 3) (N := some 53) #[true, true, true, true, false, false] rfl rfl (one_of HT_.out (by kernel_rfl)) (by decide) (fun K hK => ?_)
      refine goes_ Tryd.func27 (by kernel_rfl) rfl #[.slice A15 ([p] ++ L).length c15] (by rfl) rfl rfl (by (simp only [List.map_toArray, List.map_cons, List.map_nil]); rfl) ?_
      refine hS2.mono ?_
      rintro e w6 ⟨A7, c7, A8, c8, rfl, hb6, h7, h8, hc8⟩
      refine ⟨_, rfl, ?_⟩
      have g1 := HD.out.go1
      have g2 := HD.out.go2
      have hz6 := hb6.size
      have hgo := blk_below HD.out.bo hb6
      have hgr := blk_below HD.out.br hb6
      have hB6 := HD.out.bel.trans (hb6.mono HD.out.bel.size)
      have hlen : ([p] ++ L).length = (strsJ ([p] ++ L)).f4.length := by simp [strsJ]
      have h8' : Kd.F k25 w6 (fun k => k ≠ go ∧ k ≠ w.heap.size + 1) A8 (strsJ ([p] ++ L)).f4.length (strsJ ([p] ++ L)).f4 := by
        rw [← hlen]; exact Kd.F_mono h8 (fun k hk => by omega)
      have hP2 := Put_F (fun k => k ≠ go ∧ k ≠ w.heap.size + 1) 5 0 ⟨#[]⟩ A5 c5 (sK keys list key i) A6 c6 (sL keys list key i) key (strsJ ([p] ++ L)) A7 c7 A8 c8 w6 (Kd.F_now (Kd.F_below HD.out.f5 hb6)) HD.out.l5 (Kd.F_below HD.out.f6 hb6) HD.out.l6 (by simp only [sK, List.length_map]; omega) (by simp only [sL, List.length_map]; omega) (Kd.F_mono h7 (fun k hk => by omega)) (Nat.zero_le _) h8' (by rw [← hlen]; exact hc8)
      have HP2 := Lib.hid hP2
      refine hK.out _ _ (blk_below hHeld hb6) (fun hHeld => ?_)
      clear hK K hS2 hP2 h7 h8 h8' HD
      refine norm_ (a' := ?_) ?_ ?_
      rotate_left
      · show Act.put _ (some 53) _ = _
        simp only [Act.put, List.setIfInBounds_toArray, List.set_cons_zero, List.set_cons_succ, i64_w, i32_w]
        rfl
      refine one_ (i := 4) (N := some 54) #[true, true, true, true, true, false] rfl rfl (one_of HT_.out (by kernel_rfl)) (by decide) (fun K hK => ?_)
      refine goes_ Tryd.func13 (by kernel_rfl) rfl #[.agg #[.int .i64 5, .int .i64 0, .string ⟨#[]⟩, .slice A5 (sK keys list key i).length c5, .slice A6 (sL keys list key i).length c6], .string key, .agg #[.int .i64 4, .int .i64 0, .string ⟨#[]⟩, .slice A7 0 c7, .slice A8 ([p] ++ L).length c8]] (by rfl) rfl rfl (by (simp only [List.map_toArray, List.map_cons, List.map_nil]); rfl) ?_
      have hP3 := HP2.out
      simp only [strsJ, List.length_map, List.length_nil] at hP3
      refine hP3.mono ?_
      rintro e w7 ⟨A9, c9, B9, d9, rfl, hb7, h9, hc9, h10, hc10⟩
      refine ⟨_, rfl, ?_⟩
      have hB7 := hB6.trans (hb7.mono hB6.size)
      have hgr7 := blk_below hgr hb7
      refine hK.out _ _ (blk_below hHeld hb7) (fun hHeld => ?_)
      clear hK K HP2 hP3 hB6 hgr hb6
      refine norm_ (a' := ?_) ?_ ?_
      rotate_left
      · show Act.put _ (some 54) _ = _
        simp only [Act.put, List.setIfInBounds_toArray, List.set_cons_zero, List.set_cons_succ, i64_w, i32_w]
        rfl
      have hs0 : w7.cell? ⟨w.heap.size + 1, 0, none⟩ = some (.int .i64 0) := (blk_cell hgr7 0).trans rfl
      have hs1 : w7.cell? ⟨w.heap.size + 1, 1, none⟩ = some (.int .i64 0) := (blk_cell hgr7 1).trans rfl
      have hs2 : w7.cell? ⟨w.heap.size + 1, 2, none⟩ = some (.string ⟨#[]⟩) := (blk_cell hgr7 2).trans rfl
      have hs3 : w7.cell? ⟨w.heap.size + 1, 3, none⟩ = some (.slice none 0 0) := (blk_cell hgr7 3).trans rfl
      have hs4 : w7.cell? ⟨w.heap.size + 1, 4, none⟩ = some (.slice none 0 0) := (blk_cell hgr7 4).trans rfl
      have hf0 := blk_frozen hgr7 0; have hf1 := blk_frozen hgr7 1; have hf2 := blk_frozen hgr7 2; have hf3 := blk_frozen hgr7 3; have hf4 := blk_frozen hgr7 4
      refine last_ (i := 5) (N := none) #[true, true, true, true, true, true] rfl rfl (one_of HT_.out (by kernel_rfl)) (by decide) (fun K hK => ?_)
      refine skip_ (w1 := putWrites w7 (w.heap.size + 1) (.int .i64 5) (.int .i64 0) (.string ⟨#[]⟩) (.slice A9 (sK keys list key i ++ [key]).length c9) (.slice B9 (sL keys list key i ++ [strsJ ([p] ++ L)]).length d9)) (by rfl) rfl ?_ ?_
      · go_simp
        rfl
      refine hK.out _ _ ?_
      clear hK K
      refine done_ (by kernel_rfl) ?_
      have hput := putWrites_blk hgr7 (.int .i64 5) (.int .i64 0) (.string ⟨#[]⟩) (.slice A9 (sK keys list key i ++ [key]).length c9) (.slice B9 (sL keys list key i ++ [strsJ ([p] ++ L)]).length d9)
      have hB9 := putWrites_below hB7 (show w.heap.size ≤ w.heap.size + 1 by omega) (.int .i64 5) (.int .i64 0) (.string ⟨#[]⟩) (.slice A9 (sK keys list key i ++ [key]).length c9) (.slice B9 (sL keys list key i ++ [strsJ ([p] ++ L)]).length d9)
      have hne : ∀ k, ((k ≠ go ∧ k ≠ w.heap.size + 1) ∨ w6.heap.size ≤ k) → k ≠ w.heap.size + 1 := fun k hk => by rcases hk with hk | hk <;> omega
      have F9 := Kd.F_now (putWrites_F h9 hne (.int .i64 5) (.int .i64 0) (.string ⟨#[]⟩) (.slice A9 (sK keys list key i ++ [key]).length c9) (.slice B9 (sL keys list key i ++ [strsJ ([p] ++ L)]).length d9))
      have F10 := Kd.F_now (putWrites_F h10 hne (.int .i64 5) (.int .i64 0) (.string ⟨#[]⟩) (.slice A9 (sK keys list key i ++ [key]).length c9) (.slice B9 (sL keys list key i ++ [strsJ ([p] ++ L)]).length d9))
      generalize putWrites w7 (w.heap.size + 1) (.int .i64 5) (.int .i64 0) (.string ⟨#[]⟩) (.slice A9 (sK keys list key i ++ [key]).length c9) (.slice B9 (sL keys list key i ++ [strsJ ([p] ++ L)]).length d9) = w8 at hput hB9 F9 F10 ⊢
      clear h9 h10 hs0 hs1 hs2 hs3 hs4 hf0 hf1 hf2 hf3 hf4
      try go_wp2
      refine bodyPost_ret (results_cell_row rfl _ _ (w.heap.size + 1) 25 #[.int .i64 5, .int .i64 0, .string ⟨#[]⟩, .slice A9 (sK keys list key i ++ [key]).length c9, .slice B9 (sL keys list key i ++ [strsJ ([p] ++ L)]).length d9] (0, 0) _ rfl hput Tryd.underlying25 rfl (by kernel_rfl)) rfl ?_
      have eP : mPairs keys list key keys.length = mPairs keys list key i := by rw [mPairs_all _ _ _ _ hmin, mPairs_all _ _ _ _ (Nat.min_le_left _ _)]
      have eK : sK keys list key i = mK keys list key keys.length := by simp only [sK, mK, eP]
      have eL : sL keys list key i = mL keys list key keys.length := by simp only [sL, mL, eP]
      rw [eK] at F9 hc9
      rw [eL] at F10 hc10
      refine ⟨A9, c9, B9, d9, ?_, hB9, F9, hc9, F10, hc10⟩
      rw [eK, eL]
      rfl
end Go.Proofs.YtcklgalgljmljaaDoor.Q
