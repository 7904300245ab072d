/- HandPushOff: a text of this claim's proof, as printed or written, without what the claim does not use. -/
import Derived.WalkKit
import Derived.WalkSpells
import Derived.Deep.LoopGhost
import Derived.Lib.Hide
import Derived.BigQuiet
import Derived.Deep.QuietTactic
import Derived.Test.YtodhmbnfliajiaaGreatDoorPureOff
import Derived.Test.YtodhmbnfliajiaaGreatDoorJ15
import Derived.Test.YtodhmbnfliajiaaGreatDoorPureLast
import Derived.Test.YtodhmbnfliajiaaGreatDoorPureGuards
import Derived.Test.YtodhmbnfliajiaaGreatDoorQx0
import Derived.Test.YtodhmbnfliajiaaGreatDoorJ12
namespace Go.Proofs.YtodhmbnfliajiaaGreatDoor.Q
open Go.RowKit Go.Proofs.YtodhmbnfliajiaaGreatDoorW.PrintWords Go.Proofs.YtodhmbnfliajiaaGreatDoorW.PrintLast Go.Proofs.YtodhmbnfliajiaaGreatDoorW.PrintMore
set_option linter.unusedVariables false
set_option linter.unusedSimpArgs false
def rowV (r : RL) (A3 : Option Addr) (c3 : Nat) : Array Value := #[.int .i64 r.f0, .string r.f1, .bool r.f2, .slice A3 r.f3.length c3, .bool r.f4, .bool r.f5]
theorem rowV_K {w : World} {r : RL} {A3 : Option Addr} {c3 : Nat} (h3 : Kd.C k23 w A3 r.f3.length r.f3) (hc : r.f3.length ≤ c3) : k47.K w r (rowV r A3 c3).toList := k47_mk w r (A3 := A3) (c3 := c3) hc h3
theorem rowV_reps (w : World) (base : Nat) (ok : Nat → Prop) (r : RL) (A3 : Option Addr) (c3 : Nat) : Reps ((Kd.raw 6).M w base ok) 6 [(rowV r A3 c3).toList] (rowV r A3 c3).toList := Reps.c6 ⟨rfl, rfl, by simp [Value.oneCell']⟩ (Reps.none _ _)
def QK (K : Act → World → Prop) : Exit → Act → World → Prop := fun e a w => match e with | .normal => K a w | _ => False
theorem wp_of_list {P : Program} {ops : Array Oper} {o : Oper} {a : Act} {w : World} {K : Act → World → Prop} {Q : Exit → Act → World → Prop} (hg : o.guard = none) (h : wpList P ops (QK K) [o] a w) : o.wp P a w K Q := by
  have hw : Region.wanted o (yielded ops a.tmps) = true := by unfold Region.wanted; rw [hg]
  unfold wpList at h
  rw [if_pos hw] at h
  rcases h with h | ⟨_, ⟨a', w', h⟩⟩
  · unfold Oper.wp at *
    generalize (execOp a.eval o).run P w = r at *
    cases r with
    | ok n w' =>
      cases n <;> simp only [Oper.upon] at h ⊢ <;>
        first
          | exact h
          | exact Calls.mono h (fun e w'' he => by cases e <;> first | exact he | exact he.elim | (obtain ⟨a', w', h'⟩ := he; exact h'.elim))
          | exact Rows.mono h (fun _ _ he => he)
    | halt x w' => cases x <;> simp only [Oper.upon] at h ⊢ <;> first | exact h | exact h.elim
  · exact h.elim
def offD : List (Option Nat) := [some 40, some 41, some 42, some 43, some 44, some 45, some 46, some 47, some 48, some 49, some 50, some 51, some 11]
def offLast (j : Nat) : Option Nat := if j = 0 then some 4 else if j = 4 ∨ j = 6 then some 7 else if j = 7 then some 11 else none
theorem evOf {a : Act} {t : Nat} {v : Value} (h : a.eval (.tmp t) = v) : a.tmps[t]?.getD undef = v := by
  rw [← Array.getD_eq_getD_getElem?]; exact h
theorem offLast_4 : ∀ c, offLast 0 = some c → c = 4 := fun c h => (Option.some.inj h).symm
theorem offLast_7 : ∀ c, offLast 4 = some c → c = 7 := fun c h => (Option.some.inj h).symm
theorem offLast_76 : ∀ c, offLast 6 = some c → c = 7 := fun c h => (Option.some.inj h).symm
theorem offLast_11 : ∀ c, offLast 7 = some c → c = 11 := fun c h => (Option.some.inj h).symm
def offR (B : Nat) (i : Nat) (w w' : World) : Prop := if i = 4 then Below B w w' ∧ (∀ k, k < w.heap.size → w.heap[k]? ≠ some (.cells #[] 47 (0, 0)) → w'.heap[k]? = w.heap[k]?) else if i = 7 ∨ i = 11 then Below B w w' else Below w.heap.size w w'
def RowIs (B : Nat) (W : World) (v : Value) (xs : List (List Value)) : Prop := Kd.R (Kd.raw 6) 47 W B (fun k => B ≤ k) v xs
def Nil40 (B : Nat) (W : World) (v : Value) : Prop := ∃ g, v = .slice (some ⟨g, 0, none⟩) 0 0 ∧ W.heap[g]? = some (.cells #[] 47 (0, 0)) ∧ RowIs B W v []
def One46 (B : Nat) (rv : List Value) (W : World) (v : Value) : Prop := ∃ g, v = .slice (some ⟨g, 0, none⟩) 1 1 ∧ g < W.heap.size ∧ W.heap[g]? = some (.cells rv.toArray 47 (0, 0)) ∧ Kd.F (Kd.raw 6) W (fun k => k = g) (some ⟨g, 0, none⟩) 1 [rv]
def offS (A : Option Addr) (c n i : Nat) (rows : List (List Value)) (rv : List Value) (B : Nat) (sl : Value) : List Spec :=
  [.by_ (Nil40 B), .val (.slice A n c), .val (.int .i64 (i : Int)), .val (.slice A i c), .by_ (fun W v => RowIs B W v (rows.take i)), .val (.agg rv.toArray), .by_ (One46 B rv), .by_ (fun W v => RowIs B W v (rows.take i ++ [rv])), .val (.slice A n c), .val (.int .i64 (i : Int)), .val sl, .by_ (fun W v => RowIs B W v (insAt rows i rv)), .by_ (fun W v => RowIs B W v (insAt rows i rv))]
theorem Below_cancel {B : Nat} {a b c : World} (h : Below B a b) (k : Below B a c) (hs : b.heap.size ≤ c.heap.size) : Below B b c := ⟨k.os.trans h.os.symm, k.tape.trans h.tape.symm, k.output.trans h.output.symm, hs, fun i hi => (k.block i hi).trans (h.block i hi).symm⟩
theorem offR_refl (B i : Nat) (h : i ≠ 4) (h' : ¬ (i = 7 ∨ i = 11)) (w : World) : offR B i w w := by
  unfold offR; rw [if_neg h, if_neg h']; exact Below.refl _ _
theorem Foot_to {P : World → Prop} {W W1 : World} {ok : Nat → Prop} (h : Foot P W ok) (hk : ∀ k, ok k → k < W.heap.size → W1.heap[k]? = W.heap[k]?) (hs : W.heap.size ≤ W1.heap.size) : Foot P W1 ok := fun W' h' => h W' (fun k h1 h2 => (h' k h1 (by omega)).trans (hk k h1 h2))
theorem off_keep (A : Option Addr) (c n i0 : Nat) (rows : List (List Value)) (rv : List Value) (B : Nat) (sl : Value) (hrv : rv.length = 6) (rch : Nat → Nat → Bool) (f44 : rch 4 4 = true) (f74 : rch 7 4 = true) (f114 : rch 11 4 = true) (f77 : rch 7 7 = true) (f117 : rch 11 7 = true) (f1111 : rch 11 11 = true) (f124 : rch 12 4 = true) (f127 : rch 12 7 = true) (f1211 : rch 12 11 = true)
    (i j : Nat) (hij : i ≠ j) (h1 : rch j i = false) (h2 : ∀ c, offLast j = some c → rch i c = false) (w w' : World) (v : Value) (hR : offR B i w w') (h : (specAt (offS A c n i0 rows rv B sl) j).V w v) : (specAt (offS A c n i0 rows rv B sl) j).V w' v := by
  have hlt : ∀ g x, w.heap[g]? = some x → g < w.heap.size := fun g x h => (Array.getElem?_eq_some_iff.1 h).1
  have row : ∀ xs, RowIs B w v xs → Below w.heap.size w w' → RowIs B w' v xs := fun xs h hb => Kd.R_below h hb
  have low : i ≠ 4 → i ≠ 7 → i ≠ 11 → Below w.heap.size w w' := fun a b c => by unfold offR at hR; rwa [if_neg a, if_neg (by omega)] at hR
  match j, hij, h1, h2, h with
  | 0, hij, h1, h2, h =>
    have e := h2 4 rfl
    have hb := low (fun x => by rw [x, f44] at e; cases e) (fun x => by rw [x, f74] at e; cases e) (fun x => by rw [x, f114] at e; cases e)
    obtain ⟨g, e1, e2, e3⟩ := h
    exact ⟨g, e1, (hb.block g (hlt _ _ e2)).trans e2, row _ e3 hb⟩
  | 1, _, _, _, h => exact h
  | 2, _, _, _, h => exact h
  | 3, _, _, _, h => exact h
  | 4, hij, h1, h2, h =>
    have e := h2 7 rfl
    exact row _ h (low hij (fun x => by rw [x, f77] at e; cases e) (fun x => by rw [x, f117] at e; cases e))
  | 5, _, _, _, h => exact h
  | 6, hij, h1, h2, h =>
    have e := h2 7 rfl
    obtain ⟨g, e1, e0, e2, e3⟩ := h
    have key : w'.heap[g]? = w.heap[g]? ∧ w.heap.size ≤ w'.heap.size := by
      by_cases h4 : i = 4
      · unfold offR at hR
        rw [if_pos h4] at hR
        refine ⟨hR.2 g e0 (fun x => ?_), hR.1.size⟩
        rw [e2] at x
        injection x with x
        injection x with x
        have := congrArg Array.size x
        simp [hrv] at this
      · have hb := low h4 (fun x => by rw [x, f77] at e; cases e) (fun x => by rw [x, f117] at e; cases e)
        exact ⟨hb.block g e0, hb.size⟩
    exact ⟨g, e1, by have := key.2; omega, key.1.trans e2, Foot_to e3 (fun k hk _ => by rw [hk]; exact key.1) key.2⟩
  | 7, hij, h1, h2, h =>
    have e := h2 11 rfl
    exact row _ h (low (fun x => by rw [x, f74] at h1; cases h1) hij (fun x => by rw [x, f1111] at e; cases e))
  | 8, _, _, _, h => exact h
  | 9, _, _, _, h => exact h
  | 10, _, _, _, h => exact h
  | 11, hij, h1, h2, h => exact row _ h (low (fun x => by rw [x, f114] at h1; cases h1) (fun x => by rw [x, f117] at h1; cases h1) hij)
  | 12, hij, h1, h2, h => exact row _ h (low (fun x => by rw [x, f124] at h1; cases h1) (fun x => by rw [x, f127] at h1; cases h1) (fun x => by rw [x, f1211] at h1; cases h1))
  | j + 13, _, _, _, h => exact h
set_option maxRecDepth 100000 in
set_option maxHeartbeats 8000000 in
theorem pushOff_calls (A : Option Addr) (c : Nat) (l : List RL) (r : RL) (A3 : Option Addr) (c3 : Nat) (x : EvV) (user name : ByteArray) (mem lev : Int) (w : World) (hT : Tabs w) (hN : Near x) (hr : Kd.C k47 w A l.length l) (hc : l.length ≤ c) (h3 : Kd.C k23 w A3 r.f3.length r.f3) (hc3 : r.f3.length ≤ c3) (hx : x.OkR w) :
    Calls Tryz.prog 7 #[.slice A l.length c, .agg #[.int .i64 r.f0, .string r.f1, .bool r.f2, .slice A3 r.f3.length c3, .bool r.f4, .bool r.f5], .agg (scV x user name mem lev)] w fun e w' => e = .returned (.bool true) ∧ Below w.heap.size w w' := by
  have hG : Giv A c l x w := ⟨hT, hr, hc, hx⟩
  obtain ⟨b, hb, hfew⟩ := few_c x user name mem lev l hN
  obtain ⟨b1, hb1, hfew1⟩ := few_c x user name mem lev [r] hN
  have HFew := Lib.hid (fun W (h : Below w.heap.size w W) => hfew A c W (hG.below h))
  have HFew1 := Lib.hid (fun A' (c' : Nat) W (h : Below w.heap.size w W) (hc' : 1 ≤ c') (hC : Kd.C k47 W A' 1 [r]) => (show Calls Tryz.prog 9 #[.slice A' 1 c', .agg (scV x user name mem lev)] W _ from hfew1 A' c' W ⟨hT.below h, hC, hc', hx.below h⟩))
  have HAw := Lib.hid (fun W (h : Below w.heap.size w W) => awake_c W (hT.below h))
  have HG := Lib.hid hG
  have H3 := Lib.hid h3
  have hcl : l.length ≤ c := hc
  clear hfew hfew1 hT hr hc hx hG h3
  have hu := Tryz.underlying32
  have hur := Tryz.underlying47
  go_enter Tryz.func7, Tryz.ntmps7
  go_wp2_with (first | ((with_reducible refine gate_dst (N := 4) rfl ?_); refine box_event ?hg (N := 4) ?hd (cs := rowV r A3 c3) (t := 47) ?hr ?_; (case hd => rfl); (case hg => rfl); (case hr => first | (go_simp; done) | (go_simp; rfl)); intro g4 hg4 w4 hk4 hb4; (have hn4 : w.heap.size ≤ g4 := Nat.le_of_eq hg4.symm); have HN4 := Lib.hid hn4; have HK4 := Lib.hid hk4; have HB4 := Lib.hid hb4; clear hk4 hb4 hg4 hn4) | ((with_reducible refine gate_dst (N := 5) rfl ?_); refine box_event ?hg (N := 5) ?hd (cs := scV x user name mem lev) (t := 32) ?hr ?_; (case hd => rfl); (case hg => rfl); (case hr => first | (go_simp; done) | (go_simp; rfl)); intro g5 hg5 w5 hk5 hb5; (have hn5 : w.heap.size ≤ g5 := Nat.le_trans HB4.out.size (Nat.le_of_eq hg5.symm)); (have hne : g4 ≠ g5 := by (rw [hg5]; exact Nat.ne_of_lt (blk_lt HK4.out))); have HNE := Lib.hid hne; have HN5 := Lib.hid hn5; have HS5 := Lib.hid hk5; have HB5 := Lib.hid (below_step HB4.out hb5); have HK5 := Lib.hid (blk_below HK4.out hb5); clear hk5 hb5 hg5 hn5 hne) | ((with_reducible refine gate_dst (N := 16) rfl ?_); refine wpList_load_row rfl 32 (.tmp 5) rfl g5 rfl 32 (scV x user name mem lev) (0, 0) _ HS5.out hu rfl (by kernel_rfl) ?_))
  refine (HFew.out _ HB5.out).mono ?_
  rintro e w6 ⟨rfl, hb6⟩
  have HB6 := Lib.hid (below_step HB5.out hb6)
  have HK6 := Lib.hid (blk_below HK5.out hb6)
  have HS6 := Lib.hid (blk_below HS5.out hb6)
  clear HFew HB4 HK4 HB5 HK5 HS5 hb6
  cases b with
  | false =>
    clear hb
    go_wp2
    go_ret
    exact ⟨rfl, HB6.out⟩
  | true =>
  have hf := hb rfl
  have h15 := hf.len
  clear hb
  go_wp2_with (first | ((with_reducible refine gate_dst (N := 20) rfl ?_); (try (refine gate_guard (by rfl) ?_; dsimp only)); refine wpList_load_row rfl 47 (.tmp 4) rfl g4 rfl 47 (#[.int .i64 r.f0, .string r.f1, .bool r.f2, .slice A3 r.f3.length c3, .bool r.f4, .bool r.f5]) (0, 0) _ HK6.out hur rfl (by kernel_rfl) ?_) | ((with_reducible refine gate_dst (N := 22) rfl ?_); (try (refine gate_guard (by rfl) ?_; dsimp only)); refine wpList_load_row rfl 32 (.tmp 5) rfl g5 rfl 32 (scV x user name mem lev) (0, 0) _ (blk_alloc HS6.out _) hu rfl (by kernel_rfl) ?_))
  have hr1 := R_lit_row (d := Kd.raw 6) w6 47 [(rowV r A3 c3).toList] (rowV r A3 c3).toList w.heap.size w6.heap.size (fun k => w.heap.size ≤ k) (fun _ => False) rfl HB6.out.size HB6.out.size (show 1 ≤ 9223372036854775807 by decide) (rowV_reps _ _ _ r A3 c3)
  have HB7 := Lib.hid (HB6.out.alloc HB6.out.size (.cells (rowV r A3 c3) 47))
  have hC1 : Kd.C k47 (w6.alloc (.cells (rowV r A3 c3) 47)) (some ⟨w6.heap.size, 0, none⟩) 1 [r] := rules_C (m := [r]) (Kd.R_F hr1) rfl (fun _ _ _ => rfl) (fun j p q hp hq => by
    match j, hp, hq with
    | 0, hp, hq => cases hp; cases hq; exact rowV_K (Kd.C_below H3.out HB7.out) hc3
    | j + 1, hp, _ => cases hp)
  refine (HFew1.out _ 1 _ HB7.out (Nat.le_refl _) hC1).mono ?_
  rintro e w8 ⟨rfl, hb8⟩
  have HB8 := Lib.hid (below_step HB7.out hb8)
  have HK8 := Lib.hid (blk_below (blk_alloc HK6.out _) hb8)
  have HS8 := Lib.hid (blk_below (blk_alloc HS6.out _) hb8)
  clear HFew1 HB6 HK6 HS6 HB7 hb8 hr1 hC1
  cases b1 with
  | false =>
    clear hb1
    go_wp2
    go_ret
    exact ⟨rfl, HB8.out⟩
  | true =>
  have hf1 := hb1 rfl
  clear hb1
  have p2 : w8.cell? ⟨g4, 2, none⟩ = some (.bool r.f2) := (blk_cell HK8.out 2).trans rfl
  have fz := blk_frozen HK8.out 2
  have HK9 := Lib.hid (show (w8.setCell ⟨g4, 2, none⟩ (.bool true)).heap[g4]? = some (.cells (rowV (offRule r) A3 c3) 47 (0, 0)) from blk_put HK8.out 2 (.bool true) rfl)
  have HB9 := Lib.hid (HB8.out.setCell (p := ⟨g4, 2, none⟩) HN4.out (.bool true))
  have HS9 := Lib.hid (show (w8.setCell ⟨g4, 2, none⟩ (.bool true)).heap[g5]? = some (.cells (scV x user name mem lev) 32 (0, 0)) from (Below.heap_setCell w8 ⟨g4, 2, none⟩ (.bool true) g5 (fun e => HNE.out e.symm)).trans HS8.out)
  obtain ⟨t, ht⟩ : ∃ t, t = tellB l x user name mem lev := ⟨_, rfl⟩
  have HTe := Lib.hid (fun W (h : Below w.heap.size w W) => tell_c x user name mem lev hf.small hf.name l hf.rulesSmall A c W (HG.out.below h))
  rw [← ht] at HTe
  have HTo := Lib.hid (fun (i : Nat) (hi : i ≤ l.length) A' (c' : Nat) W (h : Below w.heap.size w W) (hC : Kd.C k47 W A' (insAt l i (offRule r)).length (insAt l i (offRule r))) (hc' : (insAt l i (offRule r)).length ≤ c') => (show Calls Tryz.prog 16 #[.slice A' (insAt l i (offRule r)).length c', .agg (scV x user name mem lev)] W fun e w' => e = .returned (.tuple #[.bool t.1, .bool t.2.1, .string t.2.2]) ∧ Below W.heap.size W w' from by
    have h2 := tell_c x user name mem lev hf.small hf.name _ (rulesSmall_off hf hf1 i hi) A' c' W ⟨HG.out.hT.below h, hC, hc', HG.out.hx.below h⟩
    rw [tell_off l (offRule r) rfl i hi, ← ht] at h2
    exact h2))
  clear ht
  obtain ⟨t1, t2, t3⟩ := t
  dsimp only at HTe HTo
  obtain ⟨rows, hrl, hrw, hrk⟩ := C_raw (d := k47) HG.out.hr
  have hszr : Kd.sz k47 = 6 := rfl
  rw [hszr] at hrw
  have HRL := Lib.hid hrl
  have HRW := Lib.hid (show (Kd.raw 6).C w A rows.length rows by rw [hrl]; exact hrw)
  have HRK := Lib.hid hrk
  clear hrl hrw hrk hszr
  go_wp2_with (((with_reducible refine gate_dst (N := 29) rfl ?_); refine wpList_load_row rfl 32 (.tmp 5) rfl g5 rfl 32 (scV x user name mem lev) (0, 0) _ HS9.out hu rfl (by kernel_rfl) ?_))
  refine (HTe.out _ HB9.out).mono ?_
  rintro e w10 ⟨rfl, hb10⟩
  have HB10 := Lib.hid (below_step HB9.out hb10)
  have HK10 := Lib.hid (blk_below HK9.out hb10)
  have HS10 := Lib.hid (blk_below HS9.out hb10)
  clear HTe HB8 HK8 HS8 HB9 HK9 HS9 hb10 p2 fz
  go_wp2
  go_loopw [10] (fun vi wr => ∃ i : Nat, i ≤ l.length + 1 ∧ vi = .int .i64 i ∧ Hid (Below w.heap.size w wr) ∧ Hid (wr.heap[g4]? = some (.cells (rowV (offRule r) A3 c3) 47 (0, 0))) ∧ Hid (wr.heap[g5]? = some (.cells (scV x user name mem lev) 32 (0, 0)))) (fun vi _ => l.length + 1 - (intOf vi).toNat)
  case atStart => exact ⟨0, by omega, rfl, HB10, HK10, HS10⟩
  case round =>
    clear HB10 HK10 HS10
    obtain ⟨i, hi, rfl, HB, HK, HS⟩ := hrel
    by_cases h1 : i ≤ l.length
    rotate_left
    · have b1 : decide ((i : Int) ≤ (l.length : Int)) = false := decide_eq_false (by omega)
      have b2 : decide (i ≤ l.length) = false := decide_eq_false h1
      clear h1 hi
      go_wp2_with (go_at_call 13; refine (HAw.out _ HB.out).mono ?_; rintro e w9 ⟨rfl, hb9⟩; have HB9 := Lib.hid (below_step HB.out hb9); clear hb9)
      go_ret
      exact ⟨rfl, HB9.out⟩
    · have b1 : decide ((i : Int) ≤ (l.length : Int)) = true := decide_eq_true (by omega)
      have b2 : decide (i ≤ l.length) = true := decide_eq_true h1
      go_wp2
      have hz : wr.heap.size ≤ wr.heap.size := Nat.le_refl _
      have hrl := HRL.out
      refine wp_region_someL _ offD (offS A c l.length i rows [.int .i64 r.f0, .string r.f1, .bool true, .slice A3 r.f3.length c3, .bool r.f4, .bool r.f5] wr.heap.size (.slice (if c = i then A else A.map (·.add (i * 6))) (l.length - i) (c - i))) offLast (fun W => Below wr.heap.size wr W) (offR wr.heap.size) (by kernel_rfl) (by kernel_rfl) (by kernel_rfl) (by kernel_rfl) rfl (below_drew1 (Below.refl _ _)) ?hI ?hLast ?hV ?hNo ?hp ?hq
      case hI =>
        intro j w1 w2 h hR
        unfold offR at hR
        by_cases h4 : j = 4
        · rw [if_pos h4] at hR; exact h.trans hR.1
        · rw [if_neg h4] at hR
          by_cases h7 : j = 7 ∨ j = 11
          · rw [if_pos h7] at hR; exact h.trans hR
          · rw [if_neg h7] at hR; exact below_step h hR
      case hLast =>
        intro j c' h
        unfold offLast at h
        by_cases e0 : j = 0
        · subst e0; exact ⟨_, rfl⟩
        · rw [if_neg e0] at h
          by_cases e1 : j = 4 ∨ j = 6
          · rcases e1 with e1 | e1 <;> subst e1 <;> exact ⟨_, rfl⟩
          · rw [if_neg e1] at h
            by_cases e2 : j = 7
            · subst e2; exact ⟨_, rfl⟩
            · rw [if_neg e2] at h; cases h
      case hV =>
        intro i' j hij h1' h2' W W' v _ hR hv
        exact off_keep A c l.length i rows [.int .i64 r.f0, .string r.f1, .bool true, .slice A3 r.f3.length c3, .bool r.f4, .bool r.f5] wr.heap.size _ rfl (fun a b => reachB _ a b) (by kernel_rfl) (by kernel_rfl) (by kernel_rfl) (by kernel_rfl) (by kernel_rfl) (by kernel_rfl) (by kernel_rfl) (by kernel_rfl) (by kernel_rfl) i' j hij h1' h2' W W' v hR hv
      case hNo =>
        intro j hj h
        exact absurd h ((show ∀ j, j < 13 → oslot offD j ≠ none by decide) j hj)
      case hp =>
        refine ⟨?p0, ?p1, ?p2, ?p3, ?p4, ?p5, ?p6, ?p7, ?p8, ?p9, ?p10, ?p11, ?p12, trivial⟩
        case p0 =>
          intro _ a w2 hinv hk hd hkp K hK
          unfold Oper.wp
          go_simp
          exact hK _ _ ⟨w2.heap.size, rfl, (show (w2.heap.push (.cells #[] 47))[w2.heap.size]? = _ by simp), R_lit_row (d := Kd.raw 6) w2 47 [] [] wr.heap.size w2.heap.size (fun k => wr.heap.size ≤ k) (fun _ => False) rfl hinv.size hinv.size (by decide) (Reps.none _ _)⟩ (show offR _ 0 _ _ from by unfold offR; rw [if_neg (by decide), if_neg (by decide)]; exact (Below.refl _ _).alloc (Nat.le_refl _) _)
        case p1 =>
          intro _ a w2 hinv hk hd hkp K hK
          have h0 : a.tmps[0]?.getD undef = .slice A l.length c := evOf ((hk 0 (show ∀ i, i < 13 → oslot offD i ≠ some 0 by decide)).trans rfl)
          unfold Oper.wp
          go_simp
          exact hK _ _ rfl (offR_refl _ _ (by decide) (by decide) _)
        case p2 =>
          intro _ a w2 hinv hk hd hkp K hK
          have h10 : a.tmps[10]?.getD undef = .int .i64 (i : Int) := evOf ((hk 10 (show ∀ i, i < 13 → oslot offD i ≠ some 10 by decide)).trans rfl)
          unfold Oper.wp
          go_simp
          exact hK _ _ rfl (offR_refl _ _ (by decide) (by decide) _)
        case p3 =>
          intro _ a w2 hinv hk hd hkp K hK
          have h41 : a.tmps[41]?.getD undef = .slice A l.length c := evOf (hd 1 (by decide) (by kernel_rfl) (fun c' hc' => by simp [offLast] at hc'))
          have h42 : a.tmps[42]?.getD undef = .int .i64 (i : Int) := evOf (hd 2 (by decide) (by kernel_rfl) (fun c' hc' => by simp [offLast] at hc'))
          have i1 : (0 : Int) ≤ (i : Int) := by omega
          have i2 : (i : Int) ≤ (c : Int) := by omega
          unfold Oper.wp
          go_simp
          exact hK _ _ rfl (offR_refl _ _ (by decide) (by decide) _)
        case p4 =>
          intro _ a w2 hinv hk hd hkp K hK
          obtain ⟨g, q1, q2, q3⟩ := hd 0 (by decide) (by kernel_rfl) (fun c' hc' => by obtain rfl := offLast_4 c' hc'; kernel_rfl)
          have e40 : a.eval (.tmp 40) = .slice (some ⟨g, 0, none⟩) 0 0 := q1
          change RowIs _ _ (a.eval (.tmp 40)) _ at q3
          rw [e40] at q3
          have e43 : a.eval (.tmp 43) = .slice A i c := hd 3 (by decide) (by kernel_rfl) (fun c' hc' => by simp [offLast] at hc')
          have hC := Kd.C_take (Kd.C_below HRW.out (below_step HB.out hinv)) (show i ≤ rows.length by omega)
          rw [show (rows.take i).length = i by rw [List.length_take]; omega] at hC
          refine wp_of_list (ops := #[]) rfl ?_
          refine Kd.R_append_rows (Kd.raw 6) (w0 := wr) wr.heap.size rfl (.tmp 40) (.tmp 43) 37 47 (.agg #[(.int .i64 0), (.string ⟨#[]⟩), (.bool false), (.slice none 0 0), (.bool false), (.bool false)]) 64 rfl Tryz.underlying37 info47 rfl (by decide) (by omega) _ ([]) (rows.take i) A (i) (c) (fun k => wr.heap.size ≤ k) (fun _ => False) e40 e43 q3 hC (fun _ _ h => h) (fun _ h => h.elim) (fun k hk => Nat.le_trans hinv.size hk) hinv hinv.size ?_ ?_
          · simp only [List.length_nil, List.length_append, List.length_take, List.length_singleton]; omega
          intro v1 w1 ho hb hg _
          rw [List.nil_append] at ho
          exact hK v1 w1 ho (show offR _ 4 _ _ from by unfold offR; rw [if_pos rfl]; exact ⟨Below_cancel hinv hb hg.size, fun k hk hne => hg.block k hk (fun e => by injection e with e; subst e; exact hne q2)⟩)
        case p5 =>
          intro _ a w2 hinv hk hd hkp K hK
          have e4 : a.eval (.tmp 4) = .pointer (some ⟨g4, 0, none⟩) := (hk 4 (show ∀ i, i < 13 → oslot offD i ≠ some 4 by decide)).trans rfl
          exact wp_load_part 47 (.tmp 4) rfl g4 0 e4 47 (rowV (offRule r) A3 c3) (rowV (offRule r) A3 c3) (0, 0) _ (blk_below HK.out hinv) rfl hur rfl (by kernel_rfl) (hK _ _ rfl (offR_refl _ _ (by decide) (by decide) _))
        case p6 =>
          intro _ a w2 hinv hk hd hkp K hK
          have h45 : a.tmps[45]?.getD undef = .agg #[.int .i64 r.f0, .string r.f1, .bool true, .slice A3 r.f3.length c3, .bool r.f4, .bool r.f5] := evOf (hd 5 (by decide) (by kernel_rfl) (fun c' hc' => by simp [offLast] at hc'))
          unfold Oper.wp
          go_simp
          exact hK _ _ ⟨w2.heap.size, rfl, (show w2.heap.size < (w2.alloc _).heap.size by simp), (show (w2.heap.push (.cells #[.int .i64 r.f0, .string r.f1, .bool true, .slice A3 r.f3.length c3, .bool r.f4, .bool r.f5] 47))[w2.heap.size]? = _ by simp), Kd.R_F (R_lit_row (d := Kd.raw 6) w2 47 [[.int .i64 r.f0, .string r.f1, .bool true, .slice A3 r.f3.length c3, .bool r.f4, .bool r.f5]] [.int .i64 r.f0, .string r.f1, .bool true, .slice A3 r.f3.length c3, .bool r.f4, .bool r.f5] wr.heap.size w2.heap.size (fun k => k = w2.heap.size) (fun _ => False) rfl rfl hinv.size (show 1 ≤ 9223372036854775807 by decide) (rowV_reps _ _ _ (offRule r) A3 c3))⟩ (show offR _ 6 _ _ from by unfold offR; rw [if_neg (by decide), if_neg (by decide)]; exact (Below.refl _ _).alloc (Nat.le_refl _) _)
        case p7 =>
          intro _ a w2 hinv hk hd hkp K hK
          have q3 := hd 4 (by decide) (by kernel_rfl) (fun c' hc' => by obtain rfl := offLast_7 c' hc'; kernel_rfl)
          obtain ⟨g, q1, _, _, q2⟩ := hd 6 (by decide) (by kernel_rfl) (fun c' hc' => by obtain rfl := offLast_76 c' hc'; kernel_rfl)
          have e46 : a.eval (.tmp 46) = .slice (some ⟨g, 0, none⟩) 1 1 := q1
          refine wp_of_list (ops := #[]) rfl ?_
          refine Kd.R_append_rows (Kd.raw 6) (w0 := wr) wr.heap.size rfl (.tmp 44) (.tmp 46) 37 47 (.agg #[(.int .i64 0), (.string ⟨#[]⟩), (.bool false), (.slice none 0 0), (.bool false), (.bool false)]) 64 rfl Tryz.underlying37 info47 rfl (by decide) (by omega) _ (rows.take i) ([[.int .i64 r.f0, .string r.f1, .bool true, .slice A3 r.f3.length c3, .bool r.f4, .bool r.f5]]) (some ⟨g, 0, none⟩) (1) (1) (fun k => wr.heap.size ≤ k) (fun _ => False) rfl e46 q3 (q2 w2 (fun _ _ _ => rfl)) (fun _ _ h => h) (fun _ h => h.elim) (fun k hk => Nat.le_trans hinv.size hk) hinv hinv.size ?_ ?_
          · simp only [List.length_nil, List.length_append, List.length_take, List.length_singleton]; omega
          intro v1 w1 ho hb hg _
          exact hK v1 w1 ho (show offR _ 7 _ _ from by unfold offR; rw [if_neg (by decide), if_pos (by decide)]; exact Below_cancel hinv hb hg.size)
        case p8 =>
          intro _ a w2 hinv hk hd hkp K hK
          have h0 : a.tmps[0]?.getD undef = .slice A l.length c := evOf ((hk 0 (show ∀ i, i < 13 → oslot offD i ≠ some 0 by decide)).trans rfl)
          unfold Oper.wp
          go_simp
          exact hK _ _ rfl (offR_refl _ _ (by decide) (by decide) _)
        case p9 =>
          intro _ a w2 hinv hk hd hkp K hK
          have h10 : a.tmps[10]?.getD undef = .int .i64 (i : Int) := evOf ((hk 10 (show ∀ i, i < 13 → oslot offD i ≠ some 10 by decide)).trans rfl)
          unfold Oper.wp
          go_simp
          exact hK _ _ rfl (offR_refl _ _ (by decide) (by decide) _)
        case p10 =>
          intro _ a w2 hinv hk hd hkp K hK
          have h48 : a.tmps[48]?.getD undef = .slice A l.length c := evOf (hd 8 (by decide) (by kernel_rfl) (fun c' hc' => by simp [offLast] at hc'))
          have h49 : a.tmps[49]?.getD undef = .int .i64 (i : Int) := evOf (hd 9 (by decide) (by kernel_rfl) (fun c' hc' => by simp [offLast] at hc'))
          have i1 : (0 : Int) ≤ (i : Int) := by omega
          have i2 : (i : Int) ≤ (l.length : Int) := by omega
          have i3 : (i : Int) ≤ (c : Int) := by omega
          have i4 : (l.length : Int) ≤ (c : Int) := by omega
          unfold Oper.wp
          go_simp
          exact hK _ _ rfl (offR_refl _ _ (by decide) (by decide) _)
        case p11 =>
          intro _ a w2 hinv hk hd hkp K hK
          have q3 : RowIs wr.heap.size w2 (a.eval (.tmp 47)) (rows.take i ++ [[.int .i64 r.f0, .string r.f1, .bool true, .slice A3 r.f3.length c3, .bool r.f4, .bool r.f5]]) := hd 7 (by decide) (by kernel_rfl) (fun c' hc' => by obtain rfl := offLast_11 c' hc'; kernel_rfl)
          have e50 : a.eval (.tmp 50) = .slice (if c = i then A else A.map (·.add (i * 6))) (l.length - i) (c - i) := hd 10 (by decide) (by kernel_rfl) (fun c' hc' => by simp [offLast] at hc')
          have hC := Kd.C_drop (k := Kd.raw 6) (c := c) (m := i) (Kd.C_below HRW.out (below_step HB.out hinv)) (show i ≤ rows.length by omega) (by omega)
          rw [show (rows.drop i).length = l.length - i by rw [List.length_drop]; omega] at hC
          refine wp_of_list (ops := #[]) rfl ?_
          refine Kd.R_append_rows (Kd.raw 6) (w0 := wr) wr.heap.size rfl (.tmp 47) (.tmp 50) 37 47 (.agg #[(.int .i64 0), (.string ⟨#[]⟩), (.bool false), (.slice none 0 0), (.bool false), (.bool false)]) 64 rfl Tryz.underlying37 info47 rfl (by decide) (by omega) _ (_) (rows.drop i) (if c = i then A else A.map (·.add (i * 6))) (l.length - i) (c - i) (fun k => wr.heap.size ≤ k) (fun _ => False) rfl e50 q3 hC (fun _ _ h => h) (fun _ h => h.elim) (fun k hk => Nat.le_trans hinv.size hk) hinv hinv.size ?_ ?_
          · simp only [List.length_nil, List.length_append, List.length_take, List.length_singleton]; omega
          intro v1 w1 ho hb hg _
          exact hK v1 w1 ho (show offR _ 11 _ _ from by unfold offR; rw [if_neg (by decide), if_pos (by decide)]; exact Below_cancel hinv hb hg.size)
        case p12 =>
          intro _ a w2 hinv hk hd hkp K hK
          have q3 := hd 11 (by decide) (by kernel_rfl) (fun c' hc' => by simp [offLast] at hc')
          obtain ⟨v, hv⟩ : ∃ v, a.eval (.tmp 51) = v := ⟨_, rfl⟩
          change RowIs _ _ (a.eval (.tmp 51)) _ at q3
          rw [hv] at q3
          have h51 := evOf hv
          unfold Oper.wp
          go_simp
          exact hK _ _ q3 (offR_refl _ _ (by decide) (by decide) _)
      case hq =>
        intro w7 f hinv hf
        have h12 : RowIs wr.heap.size w7 (f 12) (insAt rows i [.int .i64 r.f0, .string r.f1, .bool true, .slice A3 r.f3.length c3, .bool r.f4, .bool r.f5]) := hf 12 (by decide) rfl
        clear hf
        obtain ⟨A11, c11, e11⟩ := Kd.R_slice h12
        have e11' : f (0 + 1 + 1 + 1 + 1 + 1 + 1 + 1 + 1 + 1 + 1 + 1 + 1) = .slice A11 (insAt rows i [.int .i64 r.f0, .string r.f1, .bool true, .slice A3 r.f3.length c3, .bool r.f4, .bool r.f5]).length c11 := e11
        rw [e11] at h12
        dsimp only [putsO, conc, offD, offS, Spec.value]
        simp only [Act.put, List.setIfInBounds_toArray, List.set_cons_succ, List.set_cons_zero]
        have hlen : (insAt rows i [.int .i64 r.f0, .string r.f1, .bool true, .slice A3 r.f3.length c3, .bool r.f4, .bool r.f5]).length = (insAt l i (offRule r)).length := by rw [insAt_length _ _ _ (by omega), insAt_length _ _ _ h1]; omega
        rw [hlen] at e11' h12
        rw [e11']
        have HBi := Lib.hid hinv
        have HB11 := Lib.hid (below_step HB.out hinv)
        have HK11 := Lib.hid (blk_below HK.out hinv)
        have HS11 := Lib.hid (blk_below HS.out hinv)
        have HM := Lib.hid (show Kd.C k47 w7 A11 (insAt l i (offRule r)).length (insAt l i (offRule r)) from rules_C (Kd.R_F h12) hlen (fun _ _ _ => rfl) (insAt_rel (K := fun p q => k47.K w7 p q) l rows (by omega) i h1 (offRule r) _ (rowV_K (r := offRule r) (Kd.C_below H3.out HB11.out) hc3) (fun j p q hp hq => k47.K_below HB11.out (HRK.out j p q hp hq))))
        have hcc : (insAt l i (offRule r)).length ≤ c11 := by have h := (Kd.R_reads' h12).2.1; exact h
        have HC := Lib.hid hcc
        clear e11 e11' h12 hlen hcc hrl hz hinv HBi
        have n1 : (t1 != t1) = false := by simp
        have n2 : (t2 != t2) = false := by simp
        have n3 : (t3.toList != t3.toList) = false := by simp
        go_wp2_with (first | ((with_reducible refine gate_dst (N := 54) rfl ?_); refine wpList_load_row rfl 32 (.tmp 5) rfl g5 rfl 32 (scV x user name mem lev) (0, 0) _ HS11.out hu rfl (by kernel_rfl) ?_) | (go_at_call 16; refine (HTo.out i h1 A11 c11 _ HB11.out HM.out HC.out).mono ?_; rintro e w12 ⟨rfl, hb12⟩; have HB12 := Lib.hid (below_step HB11.out hb12); have HK12 := Lib.hid (blk_below HK11.out hb12); have HS12 := Lib.hid (blk_below HS11.out hb12); clear HB11 HK11 HS11 HM HC hb12 HB HK HS))
        go_roundw
        case rel => exact ⟨i + 1, by omega, by simp, HB12, HK12, HS12⟩
        case measure => simp [intOf]; omega
end Go.Proofs.YtodhmbnfliajiaaGreatDoor.Q
