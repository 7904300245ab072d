/- HandPushOwn: a text of this claim's proof, as printed or written, without what the claim does not use. -/
import Derived.WalkKit
import Derived.WalkSpells
import Derived.Deep.LoopGhost
import Derived.Lib.Hide
import Derived.BigQuiet
import Derived.Deep.QuietTactic
import Derived.Test.YtodhmbnfliajiaaGreatDoorJ12
import Derived.Test.YtodhmbnfliajiaaGreatDoorHandPut
import Derived.Test.YtodhmbnfliajiaaGreatDoorPureGuards
import Derived.Test.YtodhmbnfliajiaaGreatDoorQx0
import Derived.Test.YtodhmbnfliajiaaGreatDoorJ13
namespace Go.Proofs.YtodhmbnfliajiaaGreatDoor.Q
open Go.RowKit Go.Proofs.YtodhmbnfliajiaaGreatDoorW.PrintWords Go.Proofs.YtodhmbnfliajiaaGreatDoorW.PrintLast Go.Proofs.YtodhmbnfliajiaaGreatDoorW.PrintMore
set_option linter.unusedVariables false
set_option linter.unusedSimpArgs false
theorem R_lit_row {α : Type} {d : Kd α} (W : World) (e : Nat) (xs : List α) (inner : List Value) (base g : Nat) (ok okp : Nat → Prop) (hg : g = W.heap.size) (hok : ok g) (hb : base ≤ W.heap.size) (hm : xs.length ≤ 9223372036854775807)
    (hrep : Reps (d.M (W.alloc (.cells inner.toArray e)) base (fun k => ok k ∧ some k ≠ (Value.slice (some ⟨g, 0, none⟩) xs.length xs.length).ownBlock)) d.sz xs inner) : d.R e (W.alloc (.cells inner.toArray e)) base ok (.slice (some ⟨g, 0, none⟩) xs.length xs.length) xs := by
  subst hg
  refine ⟨fun k hk => ?_, inner, ?_, hrep⟩
  · have : W.heap.size = k := by simpa [Value.ownBlock] using hk
    subst this
    exact hok
  · have h2 := World.ownsRow_lit (base := base) (e := e) (size := d.sz) W inner.toArray xs.length hb (by simpa [maxLen] using hm) (by simpa using hrep.1)
    simpa using h2
def allName : ByteArray := ⟨#[97, 108, 108]⟩
def allRule : RL := ⟨-2000, allName, false, [], true, false⟩
def allRow : List Value := [.int .i64 (-2000), .string ⟨#[97, 108, 108]⟩, .bool false, .slice none 0 0, .bool true, .bool false]
theorem allRule_K (w : World) : k47.K w allRule allRow := k47_mk w allRule (A3 := none) (c3 := 0) (Nat.le_refl _) (C_nil _ _ _)
theorem tell_all_first (l : List RL) (x : EvV) (user name : ByteArray) (mem lev : Int) (hc : ∀ r ∈ l, -1000 ≤ r.f0) : tellB (l ++ [allRule]) x user name mem lev = if x.sender.toList = user.toList then (false, false, ⟨#[]⟩) else (true, false, allName) := by
  have hlen : (l ++ [allRule]).length = l.length + 1 := by simp
  have hlast : rd_T47 (l ++ [allRule]) ((l.length : Nat) : Int) = allRule := by simp [rd_T47]
  by_cases h0 : x.sender.toList = user.toList
  · rw [if_pos h0]
    unfold tellB findB
    rw [if_pos h0]; rfl
  · rw [if_neg h0]
    have hs := best_spec (clsOf (l ++ [allRule])) (okAt (l ++ [allRule]) x name mem lev) (l ++ [allRule]).length
    have hb : bestIdx (clsOf (l ++ [allRule])) (okAt (l ++ [allRule]) x name mem lev) (l ++ [allRule]).length = some l.length := by
      refine best_unique hs ⟨?_, by omega, fun k hk _ => ?_⟩
      · unfold okAt; rw [hlast]; rfl
      · by_cases hkl : k = l.length
        · exact .inl hkl.symm
        · right; left
          have hkk : k < l.length := by omega
          have h1 : clsOf (l ++ [allRule]) l.length = -2000 := by unfold clsOf; rw [hlast]; rfl
          have h2 : clsOf (l ++ [allRule]) k = l[k].f0 := by
            unfold clsOf
            rw [show rd_T47 (l ++ [allRule]) (k : Int) = l[k] by simp [rd_T47, List.getElem?_append_left hkk, hkk]]
          have := hc _ (List.getElem_mem hkk)
          omega
    have hf : findB (l ++ [allRule]) x user name mem lev = ((l.length : Int), true) := by
      unfold findB; rw [if_neg h0, hb]
    unfold tellB
    rw [hf, if_pos rfl, hlast]; rfl
theorem rulesSmall_all {l : List RL} {x : EvV} {name : ByteArray} (f : FewIs l x name) : rulesSmall (l ++ [allRule]) = true := by
  have hl := f.len
  unfold Q.rulesSmall
  rw [Bool.and_eq_true, decide_eq_true_eq, List.all_eq_true]
  refine ⟨by rw [List.length_append, List.length_singleton]; omega, fun r hr => ?_⟩
  rw [Bool.and_eq_true, decide_eq_true_eq, List.all_eq_true]
  rcases List.mem_append.1 hr with hr | hr
  · have := f.rules r hr
    exact ⟨by have := this.1; omega, fun q hq => decide_eq_true (by have := this.2 q hq; omega)⟩
  · rw [List.mem_singleton] at hr
    subst hr
    exact ⟨by show 0 ≤ _; omega, fun q hq => by cases hq⟩
def withSender (x : EvV) (s : ByteArray) : EvV := { x with sender := s }
theorem sender_OkR {x : EvV} {s : ByteArray} {w : World} (h : x.OkR w) : (withSender x s).OkR w := ⟨⟨h.ok.k8, h.ok.l8, h.ok.k9, h.ok.l9⟩, h.k10, h.l10, h.k11, h.l11, h.k15, h.l15⟩
theorem sender_small {x : EvV} {s : ByteArray} (h : evSmall x = true) (hs : s.size ≤ 1000000000) : evSmall (withSender x s) = true := by
  unfold evSmall at h ⊢
  rw [Bool.and_eq_true, decide_eq_true_eq] at h ⊢
  exact ⟨⟨h.1.1, h.1.2.1, hs, h.1.2.2.2.1, h.1.2.2.2.2⟩, h.2⟩
theorem rules_C {W W' : World} {ok : Nat → Prop} {A : Option Addr} {rows : List (List Value)} {m : List RL} (hF : Kd.F (Kd.raw 6) W ok A m.length rows) (hl : rows.length = m.length) (hk : ∀ k, ok k → k < W.heap.size → W'.heap[k]? = W.heap[k]?) (hK : ∀ (j : Nat) (x : RL) (r : List Value), m[j]? = some x → rows[j]? = some r → k47.K W' x r) : Kd.C k47 W' A m.length m :=
  C_unraw (d := k47) (hF W' hk) hl hK
set_option maxRecDepth 100000 in
set_option maxHeartbeats 8000000 in
theorem pushOwn_calls (A : Option Addr) (c : Nat) (l : List RL) (x : EvV) (user name : ByteArray) (mem lev : Int) (w : World) (hT : Tabs w) (hN : Near x) (hus : user.size ≤ 140737488351232) (hr : Kd.C k47 w A l.length l) (hc : l.length ≤ c) (hx : x.OkR w) :
    Calls Tryz.prog 8 #[.slice A l.length c, .agg (scV x user name mem lev)] w fun e w' => e = .returned (.bool true) ∧ Below w.heap.size w w' := by
  have hG : Giv A c l x w := ⟨hT, hr, hc, hx⟩
  obtain ⟨b, hb, hfew⟩ := few_c2 x user name mem lev l hN hus
  have HFew := Lib.hid (fun W (h : Below w.heap.size w W) => hfew A c W (hG.below h))
  have HAw := Lib.hid (fun W (h : Below w.heap.size w W) => awake_c W (hT.below h))
  have HG := Lib.hid hG
  have hcl : l.length ≤ c := hc
  clear hfew hT hr hc hx hG
  have hu := Tryz.underlying32
  go_enter Tryz.func8, Tryz.ntmps8
  go_wp2_with (first | ((with_reducible refine gate_dst (N := 3) rfl ?_); refine box_event ?hg (N := 3) ?hd (cs := scV x user name mem lev) (t := 32) ?hr ?_; (case hd => rfl); (case hg => rfl); (case hr => first | (go_simp; done) | (go_simp; rfl)); intro g3 hg3 w3 hk3 hb3; (have hn3 : w.heap.size ≤ g3 := Nat.le_of_eq hg3.symm); have HN3 := Lib.hid hn3; have HK3 := Lib.hid hk3; have HB3 := Lib.hid hb3; clear hk3 hb3 hg3 hn3) | ((with_reducible refine gate_dst (N := 14) rfl ?_); refine wpList_load_row rfl 32 (.tmp 3) rfl g3 rfl 32 (scV x user name mem lev) (0, 0) _ HK3.out hu rfl (by kernel_rfl) ?_))
  refine (HFew.out _ HB3.out).mono ?_
  rintro e w4 ⟨rfl, hb4⟩
  have HB4 := Lib.hid (below_step HB3.out hb4)
  have HK4 := Lib.hid (blk_below HK3.out hb4)
  clear HFew HB3 HK3 hb4
  cases b with
  | false =>
    clear hb
    go_wp2
    go_ret
    exact ⟨rfl, HB4.out⟩
  | true =>
  have hf2 := hb rfl
  have hf := hf2.1
  have hu2 := hf2.2
  have h15 := hf.len
  clear hb hf2
  go_wp2
  go_loopw [5] (fun vi wr => ∃ i : Nat, i ≤ l.length ∧ vi = .int .i64 i ∧ Hid (∀ k (h : k < l.length), k < i → -1000 ≤ l[k].f0) ∧ Hid (Below w.heap.size w wr) ∧ Hid (SB g3 x user name mem lev wr)) (fun vi _ => l.length - (intOf vi).toNat)
  case atStart => exact ⟨0, Nat.zero_le _, rfl, Lib.hid (fun k h h0 => by omega), HB4, HK4⟩
  case round =>
    clear HB4 HK4
    obtain ⟨i, hi, rfl, HL, HB, HK⟩ := hrel
    by_cases h1 : i < l.length
    · have b1 : decide ((i : Int) < (l.length : Int)) = true := decide_eq_true (by omega)
      obtain ⟨ad, A3, c3, hA, q0, -⟩ := at_T47 (HG.out.below HB.out).hr (i : Int) (by omega) (by omega)
      rw [show rd_T47 l (i : Int) = l[i] by simp [rd_T47, h1], Int.toNat_natCast] at q0
      subst hA
      by_cases h2 : l[i].f0 < -1000
      · have b2 : decide (l[i].f0 < -1000) = true := decide_eq_true h2
        go_wp2_with (go_at_call 13; refine (HAw.out _ HB.out).mono ?_; rintro e w9 ⟨rfl, hb9⟩; have HB9 := Lib.hid (below_step HB.out hb9); clear hb9)
        go_ret
        exact ⟨rfl, HB9.out⟩
      · have b2 : decide (l[i].f0 < -1000) = false := decide_eq_false h2
        have HL2 := Lib.hid (show ∀ k (h : k < l.length), k < i + 1 → -1000 ≤ l[k].f0 from fun k h h3 => by
          by_cases hk : k = i
          · subst hk; omega
          · exact HL.out k h (by omega))
        clear h2 HL
        go_wp2
        go_roundw
        case rel => exact ⟨i + 1, by omega, by simp, HL2, HB, HK⟩
        case measure => simp [intOf]; omega
    · obtain rfl : i = l.length := by omega
      have b1 : decide ((l.length : Int) < (l.length : Int)) = false := decide_eq_false (by omega)
      have hcls : ∀ r ∈ l, -1000 ≤ r.f0 := fun r hr => by
        obtain ⟨k, hk, rfl⟩ := List.getElem_of_mem hr
        exact HL.out k hk hk
      obtain ⟨rows, hrl, hrw, hrk⟩ := C_raw (d := k47) HG.out.hr
      have hszr : Kd.sz k47 = 6 := rfl
      rw [hszr] at hrw
      have HRL := Lib.hid hrl
      have HRW := Lib.hid hrw; have HRK := Lib.hid hrk; have HCLS := Lib.hid hcls
      have hg3 : g3 < wr.heap.size := blk_lt HK.out
      have HG3 := Lib.hid hg3
      have HNIL := Lib.hid (R_lit_row (d := Kd.raw 6) wr 47 [] [] wr.heap.size wr.heap.size (fun k => wr.heap.size ≤ k) (fun _ => False) rfl (Nat.le_refl _) (Nat.le_refl _) (by decide) (Reps.none _ _))
      clear HL hrl hrw hrk hcls hszr h1 hg3
      have HA1 := Lib.hid (show Below w.heap.size w (wr.alloc (.cells #[] 47)) from HB.out.alloc HB.out.size _)
      go_wp2_with (first | ((with_reducible refine gate_builtin (b := .append) (xs := #[.tmp 30, .tmp 31]) rfl ?_); (try (refine gate_guard (by rfl) ?_; dsimp only)); at_builtin; refine Kd.R_append_rows (Kd.raw 6) (w0 := wr) wr.heap.size rfl (.tmp 30) (.tmp 31) 37 47 (.agg #[(.int .i64 0), (.string ⟨#[]⟩), (.bool false), (.slice none 0 0), (.bool false), (.bool false)]) 64 rfl Tryz.underlying37 info47 rfl (by decide) (by omega) (.slice (some ⟨wr.heap.size, 0, none⟩) 0 0) [] rows A l.length c (fun k => wr.heap.size ≤ k) (fun _ => False) rfl rfl HNIL.out (Kd.C_below HRW.out HA1.out) (fun _ _ h => h) (fun _ h => h.elim) (fun k hk => Nat.le_trans (show wr.heap.size ≤ (wr.alloc (.cells #[] 47)).heap.size by simp) hk) ((Below.refl _ _).alloc (Nat.le_refl _) _) (by simp) (by simp only [List.length_nil]; omega) ?_; intro v32 w32 ho32 hb32 hg32 hn32; rw [List.nil_append] at ho32; obtain ⟨A32, c32, rfl⟩ := Kd.R_slice ho32; have HZ32 := Lib.hid hb32.size; have HO32 := Lib.hid ho32; have HB32 := Lib.hid hb32; clear ho32 hb32 hg32 hn32) | ((with_reducible refine gate_builtin (b := .append) (xs := #[.tmp 32, .tmp 34]) rfl ?_); (try (refine gate_guard (by rfl) ?_; dsimp only)); at_builtin; refine Kd.R_append_rows (Kd.raw 6) (w0 := wr) wr.heap.size rfl (.tmp 32) (.tmp 34) 37 47 (.agg #[(.int .i64 0), (.string ⟨#[]⟩), (.bool false), (.slice none 0 0), (.bool false), (.bool false)]) 64 rfl Tryz.underlying37 info47 rfl (by decide) (by omega) (.slice A32 rows.length c32) rows [allRow] (some ⟨w32.heap.size, 0, none⟩) 1 1 (fun k => wr.heap.size ≤ k) (fun _ => False) rfl rfl (Kd.R_below HO32.out (below_alloc (Below.refl _ _) _)) (Kd.R_reads' (R_lit_row (d := Kd.raw 6) w32 47 [allRow] allRow wr.heap.size w32.heap.size (fun k => wr.heap.size ≤ k) (fun _ => False) rfl HZ32.out HZ32.out (by decide) (Reps.c6 ⟨rfl, rfl, by decide⟩ (Reps.none _ _)))).2.2 (fun _ _ h => h) (fun _ h => h.elim) (fun k hk => Nat.le_trans (Nat.le_trans HZ32.out (show w32.heap.size ≤ (w32.alloc (.cells allRow.toArray 47)).heap.size by simp)) hk) (HB32.out.alloc HZ32.out _) (Nat.le_trans HZ32.out (show w32.heap.size ≤ (w32.alloc (.cells allRow.toArray 47)).heap.size by simp)) (by have := HRL.out; omega) ?_; intro v35 w35 ho35 hb35 hg35 hn35; obtain ⟨A35, c35, rfl⟩ := Kd.R_slice ho35; have HO35 := Lib.hid ho35; have HB35 := Lib.hid hb35; clear ho35 hb35 hg35 hn35) | ((with_reducible refine gate_dst (N := 38) rfl ?_); refine wpList_load_row rfl 32 (.tmp 3) rfl g3 rfl 32 (scV x user name mem lev) (0, 0) _ (blk_below HK.out HB35.out) hu rfl (by kernel_rfl) ?_))
      have hlm : rows.length + 1 = (l ++ [allRule]).length := by rw [HRL.out]; simp
      have hF : Kd.F (Kd.raw 6) w35 (fun k => wr.heap.size ≤ k) A35 (l ++ [allRule]).length (rows ++ [allRow]) := by
        have h := Kd.R_F HO35.out
        rw [show (rows ++ [allRow]).length = (l ++ [allRule]).length by simp [HRL.out]] at h
        exact h
      have HF := Lib.hid hF
      have HLC := Lib.hid (show (l ++ [allRule]).length ≤ c35 by have h := (Kd.R_reads' HO35.out).2.1; simp at h; have := HRL.out; simp; omega)
      have HM := Lib.hid (fun W' (hb : Below w.heap.size w W') (hk : ∀ k, wr.heap.size ≤ k → k < w35.heap.size → W'.heap[k]? = w35.heap[k]?) => (show Kd.C k47 W' A35 (l ++ [allRule]).length (l ++ [allRule]) from
        rules_C HF.out (by simp [HRL.out]) hk (fun j p r hp hr' => by
          by_cases hj : j < l.length
          · rw [List.getElem?_append_left hj] at hp
            rw [List.getElem?_append_left (by rw [HRL.out]; exact hj)] at hr'
            exact k47.K_below hb (HRK.out j p r hp hr')
          · have hj2 : j = l.length := by have := (List.getElem?_eq_some_iff.1 hp).1; simp at this; omega
            subst hj2
            rw [List.getElem?_append_right (Nat.le_refl _), Nat.sub_self] at hp
            rw [List.getElem?_append_right (by rw [HRL.out]; exact Nat.le_refl _), HRL.out, Nat.sub_self] at hr'
            cases hp; cases hr'
            exact allRule_K W')))
      have HB5 := Lib.hid (below_step HB.out HB35.out)
      have HK5 := Lib.hid (blk_below HK.out HB35.out)
      rw [hlm]
      clear hF hlm
      refine (tell_c x user name mem lev hf.small hf.name _ (rulesSmall_all hf) A35 c35 w35 ⟨HG.out.hT.below HB5.out, HM.out _ HB5.out (fun _ _ _ => rfl), HLC.out, HG.out.hx.below HB5.out⟩).mono ?_
      rintro e w6 ⟨rfl, hb6⟩
      have HB66 := Lib.hid hb6
      have HB6 := Lib.hid (below_step HB5.out hb6)
      have HK6 := Lib.hid (blk_below HK5.out hb6)
      have p2 : w6.cell? ⟨g3, 2, none⟩ = some (.string x.sender) := (blk_cell HK6.out 2).trans rfl
      have p16 : w6.cell? ⟨g3, 16, none⟩ = some (.string user) := (blk_cell HK6.out 16).trans rfl
      have fz := blk_frozen HK6.out 2
      rw [tell_all_first l x user name mem lev HCLS.out]
      clear HB5 HK5 hb6
      by_cases h0 : x.sender.toList = user.toList
      · rw [if_pos h0]
        have b0 : (x.sender.toList == user.toList) = true := by simp [h0]
        have b0' : (x.sender.toList != user.toList) = false := by simp [h0]
        clear h0
        have HS7 := Lib.hid (show SB g3 (withSender x user) user name mem lev (w6.setCell ⟨g3, 2, none⟩ (.string user)) from blk_put HK6.out 2 (.string user) rfl)
        have HB7 := Lib.hid (HB6.out.setCell (p := ⟨g3, 2, none⟩) HN3.out (.string user))
        have hk7 : ∀ k, wr.heap.size ≤ k → k < w35.heap.size → (w6.setCell ⟨g3, 2, none⟩ (.string user)).heap[k]? = w35.heap[k]? := fun k h h' => (Below.heap_setCell w6 ⟨g3, 2, none⟩ (.string user) k (by have := HG3.out; show k ≠ g3; omega)).trans (HB66.out.block k h')
        have HT2 := Lib.hid (tell_c (withSender x user) user name mem lev (sender_small hf.small (by omega)) hf.name _ (rulesSmall_all hf) A35 c35 _ ⟨HG.out.hT.below HB7.out, HM.out _ HB7.out hk7, HLC.out, sender_OkR (HG.out.hx.below HB7.out)⟩)
        clear hk7
        rw [tell_all_first l (withSender x user) user name mem lev HCLS.out, if_pos (show (withSender x user).sender.toList = user.toList from rfl), show (l ++ [allRule]).length = l.length + 1 from by simp] at HT2
        go_wp2_with ((with_reducible refine gate_dst (N := 63) rfl ?_); refine wpList_load_row rfl 32 (.tmp 3) rfl g3 rfl 32 (scV (withSender x user) user name mem lev) (0, 0) _ HS7.out hu rfl (by kernel_rfl) ?_)
        refine HT2.out.mono ?_
        rintro e w8 ⟨rfl, hb8⟩
        have HB8 := Lib.hid (below_step HB7.out hb8)
        clear HT2 hb8
        go_wp2_with (go_at_call 13; refine (HAw.out _ HB8.out).mono ?_; rintro e w9 ⟨rfl, hb9⟩; have HB9 := Lib.hid (below_step HB8.out hb9); clear hb9)
        go_ret
        exact ⟨rfl, HB9.out⟩
      · rw [if_neg h0]
        have b0 : (x.sender.toList == user.toList) = false := by simp [h0]
        have b0' : (x.sender.toList != user.toList) = true := by simp [h0]
        clear h0
        unfold allName
        have HS7 := Lib.hid (show SB g3 (withSender x user) user name mem lev (w6.setCell ⟨g3, 2, none⟩ (.string user)) from blk_put HK6.out 2 (.string user) rfl)
        have HB7 := Lib.hid (HB6.out.setCell (p := ⟨g3, 2, none⟩) HN3.out (.string user))
        have hk7 : ∀ k, wr.heap.size ≤ k → k < w35.heap.size → (w6.setCell ⟨g3, 2, none⟩ (.string user)).heap[k]? = w35.heap[k]? := fun k h h' => (Below.heap_setCell w6 ⟨g3, 2, none⟩ (.string user) k (by have := HG3.out; show k ≠ g3; omega)).trans (HB66.out.block k h')
        have HT2 := Lib.hid (tell_c (withSender x user) user name mem lev (sender_small hf.small (by omega)) hf.name _ (rulesSmall_all hf) A35 c35 _ ⟨HG.out.hT.below HB7.out, HM.out _ HB7.out hk7, HLC.out, sender_OkR (HG.out.hx.below HB7.out)⟩)
        clear hk7
        rw [tell_all_first l (withSender x user) user name mem lev HCLS.out, if_pos (show (withSender x user).sender.toList = user.toList from rfl), show (l ++ [allRule]).length = l.length + 1 from by simp] at HT2
        go_wp2_with ((with_reducible refine gate_dst (N := 63) rfl ?_); refine wpList_load_row rfl 32 (.tmp 3) rfl g3 rfl 32 (scV (withSender x user) user name mem lev) (0, 0) _ HS7.out hu rfl (by kernel_rfl) ?_)
        refine HT2.out.mono ?_
        rintro e w8 ⟨rfl, hb8⟩
        have HB8 := Lib.hid (below_step HB7.out hb8)
        clear HT2 hb8
        go_wp2_with (go_at_call 13; refine (HAw.out _ HB8.out).mono ?_; rintro e w9 ⟨rfl, hb9⟩; have HB9 := Lib.hid (below_step HB8.out hb9); clear hb9)
        go_ret
        exact ⟨rfl, HB9.out⟩
end Go.Proofs.YtodhmbnfliajiaaGreatDoor.Q
