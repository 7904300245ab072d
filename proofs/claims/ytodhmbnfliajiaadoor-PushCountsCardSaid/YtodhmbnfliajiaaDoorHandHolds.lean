/- HandHolds: a text of this claim's proof, as printed or written, without what the claim does not use. -/
import Derived.WalkKit
import Derived.WalkSpells
import Derived.WalkSmall
import Derived.Deep.LoopGhost
import Derived.Lib.Hide
import Derived.Laws.EntriesVeiled
import Derived.BigQuiet
import Derived.Deep.QuietTactic
import Derived.Test.YtodhmbnfliajiaaDoorShelf
import Derived.Test.YtodhmbnfliajiaaDoorHandWord
import Derived.Test.YtodhmbnfliajiaaDoorHandStands
import Derived.Test.YtodhmbnfliajiaaDoorHandField
import Derived.Test.YtodhmbnfliajiaaDoorQx0
import Derived.Test.YtodhmbnfliajiaaDoorHandGlob
import Derived.Test.YtodhmbnfliajiaaDoorJ5
namespace Go.Proofs.YtodhmbnfliajiaaDoor.Q
open Go.RowKit Go.Shelf Go.Proofs.YtodhmbnfliajiaaDoorW.PrintWords Go.Proofs.YtodhmbnfliajiaaDoorW.PrintLast
set_option linter.unusedVariables false
def plainB (p : ByteArray) : Bool := decide (Lib.indexByte p.data.toList 42 < 0) && decide (Lib.indexByte p.data.toList 63 < 0)
set_option maxRecDepth 100000 in
set_option maxHeartbeats 2000000 in
theorem plain_calls (p : ByteArray) (w : World) : Calls Tryd.prog 11 #[.string p] w fun e w' => e = .returned (.bool (plainB p)) ∧ w' = w := by
  have h1 := fun W => Tryd.strings_IndexByte p 42 W
  have h2 := fun W => Tryd.strings_IndexByte p 63 W
  have hv : plainB p = (decide (Lib.indexByte p.data.toList 42 < 0) && decide (Lib.indexByte p.data.toList 63 < 0)) := rfl
  have e1 : (42 : Int).toNat.toUInt8 = 42 := rfl
  have e2 : (63 : Int).toNat.toUInt8 = 63 := rfl
  rw [e1] at h1
  rw [e2] at h2
  have H1 := Lib.hid h1; have H2 := Lib.hid h2
  clear h1 h2 e1 e2
  generalize Lib.indexByte p.data.toList 42 = i at *
  generalize Lib.indexByte p.data.toList 63 = j at *
  by_cases q : i < 0
  · have d1 : decide (i < 0) = true := decide_eq_true q
    rw [d1] at hv
    have HV := Lib.hid hv
    clear hv q
    go_enter Tryd.func11, Tryd.ntmps11
    go_wp2_with (go_at_call 23; first | (((with_reducible refine (H1.out _).mono ?_); rintro e w2 ⟨rfl, rfl⟩)) | (((with_reducible refine (H2.out _).mono ?_); rintro e w2 ⟨rfl, rfl⟩)))
    go_ret
    exact ⟨by rw [HV.out]; rfl, rfl⟩
  · have d1 : decide (i < 0) = false := decide_eq_false q
    rw [d1] at hv
    have HV := Lib.hid hv
    clear hv q
    go_enter Tryd.func11, Tryd.ntmps11
    go_wp2_with (go_at_call 23; ((with_reducible refine (H1.out _).mono ?_); rintro e w2 ⟨rfl, rfl⟩))
    go_ret
    exact ⟨by rw [HV.out]; rfl, rfl⟩
theorem fold_any (p s : ByteArray) (hp : p.size ≤ 1000000000) (hs : s.size ≤ 1000000000) (w : World) (hT : Tabs w) :
    Calls Tryd.prog 14 #[.string p, .string s] w fun e w' => e = .returned (.bool (foldB p s)) ∧ Below w.heap.size w w' := by
  obtain ⟨K, h⟩ := glob_Fold_f p s hp hs
  exact glob_Fold.calls K p s _ w hT h
def bodyK : ByteArray := ⟨#[99, 111, 110, 116, 101, 110, 116, 46, 98, 111, 100, 121]⟩
def holdsB (ck ckey cpat : ByteArray) (cn : Int) (x : EvV) (name : ByteArray) (mem lev : Int) : Bool :=
  if ck.toList = [99, 111, 110, 116, 97, 105, 110, 115, 95, 100, 105, 115, 112, 108, 97, 121, 95, 110, 97, 109, 101] then plainB name && (decide ((fieldB x bodyK).1 = 3) && wordB name (fieldB x bodyK).2.2)
  else if ck.toList = [101, 118, 101, 110, 116, 95, 109, 97, 116, 99, 104] then decide ((fieldB x ckey).1 = 3) && (if ckey.toList = [99, 111, 110, 116, 101, 110, 116, 46, 98, 111, 100, 121] then wordB cpat (fieldB x ckey).2.2 else foldB cpat (fieldB x ckey).2.2)
  else if ck.toList = [101, 118, 101, 110, 116, 95, 112, 114, 111, 112, 101, 114, 116, 121, 95, 105, 115] then (decide ((fieldB x ckey).1 = 3) && decide ((fieldB x ckey).2.2.toList = cpat.toList)) || ((decide ((fieldB x ckey).1 = 2) || decide ((fieldB x ckey).1 = 1)) && (decide (cpat.toList = []) && decide ((fieldB x ckey).2.1 = cn)))
  else if ck.toList = [114, 111, 111, 109, 95, 109, 101, 109, 98, 101, 114, 95, 99, 111, 117, 110, 116] then standsB cpat mem
  else if ck.toList = [115, 101, 110, 100, 101, 114, 95, 110, 111, 116, 105, 102, 105, 99, 97, 116, 105, 111, 110, 95, 112, 101, 114, 109, 105, 115, 115, 105, 111, 110] then decide (cn ≤ lev)
  else false
set_option maxRecDepth 100000 in
set_option maxHeartbeats 8000000 in
theorem holds_named (ck ckey cpat : ByteArray) (cn : Int) (x : EvV) (user name : ByteArray) (mem lev : Int) (w : World) (hT : Tabs w) (hp : cpat.size ≤ 1000000000) (hn : name.size ≤ 1000000000) (hf : ∀ k, (fieldB x k).2.2.size ≤ 1000000000) (hk : x.keys.length ≤ 1000000000) (hx : x.Ok w) (c0 : ck.toList = ([99, 111, 110, 116, 97, 105, 110, 115, 95, 100, 105, 115, 112, 108, 97, 121, 95, 110, 97, 109, 101] : List UInt8)) :
    Calls Tryd.prog 7 #[.agg #[.string ck, .string ckey, .string cpat, .int .i64 cn], .agg #[.string x.room, .string x.type, .string x.sender, .bool x.isS, .string x.key, .int .i64 x.kind, .int .i64 x.n, .string x.text, .slice x.A8 x.keys.length x.c8, .slice x.A9 x.list.length x.c9, .slice x.A10 x.prev.length x.c10, .slice x.A11 x.auth.length x.c11, .int .i64 x.depth, .int .i64 x.ts, .string x.hash, .slice x.A15 x.sigs.length x.c15, .string user, .string name, .int .i64 mem, .int .i64 lev]] w fun e w' => e = .returned (.bool (holdsB ck ckey cpat cn x name mem lev)) ∧ Below w.heap.size w w' := by
  have hv := holdsB.eq_1 ck ckey cpat cn x name mem lev
  have HB := Lib.hid (((Below.refl w.heap.size w).alloc (Nat.le_refl _) (.cells #[.string ck, .string ckey, .string cpat, .int .i64 cn] 38)).alloc (by simp) (.cells #[.string x.room, .string x.type, .string x.sender, .bool x.isS, .string x.key, .int .i64 x.kind, .int .i64 x.n, .string x.text, .slice x.A8 x.keys.length x.c8, .slice x.A9 x.list.length x.c9, .slice x.A10 x.prev.length x.c10, .slice x.A11 x.auth.length x.c11, .int .i64 x.depth, .int .i64 x.ts, .string x.hash, .slice x.A15 x.sigs.length x.c15, .string user, .string name, .int .i64 mem, .int .i64 lev] 31))
  have HT := Lib.hid (fun W hb => hT.below (W := W) hb)
  have HF := Lib.hid (fun k W (hb : Below w.heap.size w W) => field_calls x k W hk (hx.below hb))
  have HFS := Lib.hid hf
  clear hT hk hx hf
  rw [if_pos c0] at hv
  have b0 : (ck.toList == ([99, 111, 110, 116, 97, 105, 110, 115, 95, 100, 105, 115, 112, 108, 97, 121, 95, 110, 97, 109, 101] : List UInt8)) = true := by rw [c0]; decide
  have b1 : (ck.toList == ([101, 118, 101, 110, 116, 95, 109, 97, 116, 99, 104] : List UInt8)) = false := by rw [c0]; decide
  have b2 : (ck.toList == ([101, 118, 101, 110, 116, 95, 112, 114, 111, 112, 101, 114, 116, 121, 95, 105, 115] : List UInt8)) = false := by rw [c0]; decide
  have b3 : (ck.toList == ([114, 111, 111, 109, 95, 109, 101, 109, 98, 101, 114, 95, 99, 111, 117, 110, 116] : List UInt8)) = false := by rw [c0]; decide
  have b4 : (ck.toList == ([115, 101, 110, 100, 101, 114, 95, 110, 111, 116, 105, 102, 105, 99, 97, 116, 105, 111, 110, 95, 112, 101, 114, 109, 105, 115, 115, 105, 111, 110] : List UInt8)) = false := by rw [c0]; decide
  clear c0
  have HPl := Lib.hid (plain_calls name)
  have HW := Lib.hid (fun W hb => word_any name (fieldB x bodyK).2.2 hn (HFS.out bodyK) W (HT.out W hb))
  have HF2 := Lib.hid (fun W hb => HF.out bodyK W hb)
  have hbk : bodyK = (⟨#[99, 111, 110, 116, 101, 110, 116, 46, 98, 111, 100, 121]⟩ : ByteArray) := rfl
  rw [hbk] at HF2 HW hv
  clear hbk HF HFS HT
  generalize fieldB x (⟨#[99, 111, 110, 116, 101, 110, 116, 46, 98, 111, 100, 121]⟩ : ByteArray) = v at *
  obtain ⟨v1, v2, v3⟩ := v
  simp only at hv HW HF2
  cases hpl : plainB name with
  | false =>
    rw [hpl] at hv HPl
    have HV := Lib.hid hv
    clear hv hpl HF2 HW
    go_enter Tryd.func7, Tryd.ntmps7
    go_wp2
    go_quiet (fail)
    go_wp2
    go_quiet (fail)
    go_wp2_with (go_at_call 11; refine (HPl.out _).mono ?_; rintro e w3 ⟨rfl, rfl⟩)
    go_ret
    exact ⟨by rw [HV.out]; rfl, by first | exact pw_below_drewN HB.out _ | exact pw_below_drewN (pw_below_drewN HB.out _) _⟩
  | true =>
    rw [hpl] at hv HPl
    have HV := Lib.hid hv
    clear hpl hv
    by_cases h3 : v1 = 3
    · subst h3
      have HV2 := Lib.hid (show holdsB ck ckey cpat cn x name mem lev = wordB name v3 by rw [HV.out]; simp)
      clear HV
      go_enter Tryd.func7, Tryd.ntmps7
      go_wp2
      go_quiet (fail)
      go_wp2
      go_quiet (fail)
      go_wp2_with (first | (go_at_call 11; refine (HPl.out _).mono ?_; rintro e w3 ⟨rfl, rfl⟩) | (go_at_call 12; refine (HF2.out _ (by first | exact pw_below_drewN HB.out _ | exact pw_below_drewN (pw_below_drewN HB.out _) _)).mono ?_; rintro e w4 ⟨A, a, c, B, b, d, rfl, hb4⟩; have HB4 := Lib.hid (below_step (by first | exact pw_below_drewN HB.out _ | exact pw_below_drewN (pw_below_drewN HB.out _) _) hb4); clear hb4) | (go_at_call 13; refine (HW.out _ (HB4.out.alloc HB4.out.size _)).mono ?_; rintro e w5 ⟨rfl, hb5⟩; have HB5 := Lib.hid (below_step (HB4.out.alloc HB4.out.size _) hb5); clear hb5))
      go_ret
      exact ⟨by rw [HV2.out]; rfl, HB5.out⟩
    · have b3 : (v1 != 3) = true := by simp [h3]
      have HV2 := Lib.hid (show holdsB ck ckey cpat cn x name mem lev = false by rw [HV.out]; simp [h3])
      clear HV h3 HW
      go_enter Tryd.func7, Tryd.ntmps7
      go_wp2
      go_quiet (fail)
      go_wp2
      go_quiet (fail)
      go_wp2_with (first | (go_at_call 11; refine (HPl.out _).mono ?_; rintro e w3 ⟨rfl, rfl⟩) | (go_at_call 12; refine (HF2.out _ (by first | exact pw_below_drewN HB.out _ | exact pw_below_drewN (pw_below_drewN HB.out _) _)).mono ?_; rintro e w4 ⟨A, a, c, B, b, d, rfl, hb4⟩; have HB4 := Lib.hid (below_step (by first | exact pw_below_drewN HB.out _ | exact pw_below_drewN (pw_below_drewN HB.out _) _) hb4); clear hb4))
      go_ret
      exact ⟨by rw [HV2.out]; rfl, HB4.out.alloc HB4.out.size _⟩
set_option maxRecDepth 100000 in
set_option maxHeartbeats 8000000 in
theorem holds_match (ck ckey cpat : ByteArray) (cn : Int) (x : EvV) (user name : ByteArray) (mem lev : Int) (w : World) (hT : Tabs w) (hp : cpat.size ≤ 1000000000) (hn : name.size ≤ 1000000000) (hf : ∀ k, (fieldB x k).2.2.size ≤ 1000000000) (hk : x.keys.length ≤ 1000000000) (hx : x.Ok w) (c0 : ck.toList ≠ ([99, 111, 110, 116, 97, 105, 110, 115, 95, 100, 105, 115, 112, 108, 97, 121, 95, 110, 97, 109, 101] : List UInt8)) (c1 : ck.toList = ([101, 118, 101, 110, 116, 95, 109, 97, 116, 99, 104] : List UInt8)) :
    Calls Tryd.prog 7 #[.agg #[.string ck, .string ckey, .string cpat, .int .i64 cn], .agg #[.string x.room, .string x.type, .string x.sender, .bool x.isS, .string x.key, .int .i64 x.kind, .int .i64 x.n, .string x.text, .slice x.A8 x.keys.length x.c8, .slice x.A9 x.list.length x.c9, .slice x.A10 x.prev.length x.c10, .slice x.A11 x.auth.length x.c11, .int .i64 x.depth, .int .i64 x.ts, .string x.hash, .slice x.A15 x.sigs.length x.c15, .string user, .string name, .int .i64 mem, .int .i64 lev]] w fun e w' => e = .returned (.bool (holdsB ck ckey cpat cn x name mem lev)) ∧ Below w.heap.size w w' := by
  have hv := holdsB.eq_1 ck ckey cpat cn x name mem lev
  have HB := Lib.hid (((Below.refl w.heap.size w).alloc (Nat.le_refl _) (.cells #[.string ck, .string ckey, .string cpat, .int .i64 cn] 38)).alloc (by simp) (.cells #[.string x.room, .string x.type, .string x.sender, .bool x.isS, .string x.key, .int .i64 x.kind, .int .i64 x.n, .string x.text, .slice x.A8 x.keys.length x.c8, .slice x.A9 x.list.length x.c9, .slice x.A10 x.prev.length x.c10, .slice x.A11 x.auth.length x.c11, .int .i64 x.depth, .int .i64 x.ts, .string x.hash, .slice x.A15 x.sigs.length x.c15, .string user, .string name, .int .i64 mem, .int .i64 lev] 31))
  have HT := Lib.hid (fun W hb => hT.below (W := W) hb)
  have HF := Lib.hid (fun k W (hb : Below w.heap.size w W) => field_calls x k W hk (hx.below hb))
  have HFS := Lib.hid hf
  clear hT hk hx hf
  rw [if_neg c0, if_pos c1] at hv
  have b0 : (ck.toList == ([99, 111, 110, 116, 97, 105, 110, 115, 95, 100, 105, 115, 112, 108, 97, 121, 95, 110, 97, 109, 101] : List UInt8)) = false := by rw [c1]; decide
  have b1 : (ck.toList == ([101, 118, 101, 110, 116, 95, 109, 97, 116, 99, 104] : List UInt8)) = true := by rw [c1]; decide
  have b2 : (ck.toList == ([101, 118, 101, 110, 116, 95, 112, 114, 111, 112, 101, 114, 116, 121, 95, 105, 115] : List UInt8)) = false := by rw [c1]; decide
  have b3 : (ck.toList == ([114, 111, 111, 109, 95, 109, 101, 109, 98, 101, 114, 95, 99, 111, 117, 110, 116] : List UInt8)) = false := by rw [c1]; decide
  have b4 : (ck.toList == ([115, 101, 110, 100, 101, 114, 95, 110, 111, 116, 105, 102, 105, 99, 97, 116, 105, 111, 110, 95, 112, 101, 114, 109, 105, 115, 115, 105, 111, 110] : List UInt8)) = false := by rw [c1]; decide
  clear c0 c1
  have HF2 := Lib.hid (fun W hb => HF.out ckey W hb)
  have hfs := HFS.out ckey
  clear HF HFS
  generalize fieldB x ckey = v at *
  obtain ⟨v1, v2, v3⟩ := v
  simp only at hv HF2 hfs
  by_cases h3 : v1 = 3
  · subst h3
    have hv' : holdsB ck ckey cpat cn x name mem lev = (if ckey.toList = ([99, 111, 110, 116, 101, 110, 116, 46, 98, 111, 100, 121] : List UInt8) then wordB cpat v3 else foldB cpat v3) := by rw [hv]; simp
    clear hv
    by_cases hb : ckey.toList = ([99, 111, 110, 116, 101, 110, 116, 46, 98, 111, 100, 121] : List UInt8)
    · rw [if_pos hb] at hv'
      have HW := Lib.hid (fun W hb => word_any cpat v3 hp hfs W (HT.out W hb))
      have k1 : (ckey.toList == ([99, 111, 110, 116, 101, 110, 116, 46, 98, 111, 100, 121] : List UInt8)) = true := by rw [hb]; decide
      have HV2 := Lib.hid hv'
      clear hv' hb
      go_enter Tryd.func7, Tryd.ntmps7
      go_wp2
      go_quiet (fail)
      go_wp2_with (first | (go_at_call 12; refine (HF2.out _ (by first | exact pw_below_drewN HB.out _ | exact pw_below_drewN (pw_below_drewN HB.out _) _)).mono ?_; rintro e w4 ⟨A, a, c, B, b, d, rfl, hb4⟩; have HB4 := Lib.hid (below_step (by first | exact pw_below_drewN HB.out _ | exact pw_below_drewN (pw_below_drewN HB.out _) _) hb4); clear hb4) | (go_at_call 13; refine (HW.out _ (HB4.out.alloc HB4.out.size _)).mono ?_; rintro e w5 ⟨rfl, hb5⟩; have HB5 := Lib.hid (below_step (HB4.out.alloc HB4.out.size _) hb5); clear hb5))
      go_ret
      exact ⟨by rw [HV2.out]; rfl, HB5.out⟩
    · rw [if_neg hb] at hv'
      have HW := Lib.hid (fun W hb => fold_any cpat v3 hp hfs W (HT.out W hb))
      have k1 : (ckey.toList == ([99, 111, 110, 116, 101, 110, 116, 46, 98, 111, 100, 121] : List UInt8)) = false := by simpa using hb
      have HV2 := Lib.hid hv'
      clear hv' hb
      go_enter Tryd.func7, Tryd.ntmps7
      go_wp2
      go_quiet (fail)
      go_wp2_with (first | (go_at_call 12; refine (HF2.out _ (by first | exact pw_below_drewN HB.out _ | exact pw_below_drewN (pw_below_drewN HB.out _) _)).mono ?_; rintro e w4 ⟨A, a, c, B, b, d, rfl, hb4⟩; have HB4 := Lib.hid (below_step (by first | exact pw_below_drewN HB.out _ | exact pw_below_drewN (pw_below_drewN HB.out _) _) hb4); clear hb4) | (go_at_call 14; refine (HW.out _ (HB4.out.alloc HB4.out.size _)).mono ?_; rintro e w5 ⟨rfl, hb5⟩; have HB5 := Lib.hid (below_step (HB4.out.alloc HB4.out.size _) hb5); clear hb5))
      go_ret
      exact ⟨by rw [HV2.out]; rfl, HB5.out⟩
  · have b3 : (v1 != 3) = true := by simp [h3]
    have HV2 := Lib.hid (show holdsB ck ckey cpat cn x name mem lev = false by rw [hv]; simp [h3])
    clear hv h3
    go_enter Tryd.func7, Tryd.ntmps7
    go_wp2
    go_quiet (fail)
    go_wp2_with (go_at_call 12; refine (HF2.out _ (by first | exact pw_below_drewN HB.out _ | exact pw_below_drewN (pw_below_drewN HB.out _) _)).mono ?_; rintro e w4 ⟨A, a, c, B, b, d, rfl, hb4⟩; have HB4 := Lib.hid (below_step (by first | exact pw_below_drewN HB.out _ | exact pw_below_drewN (pw_below_drewN HB.out _) _) hb4); clear hb4)
    go_ret
    exact ⟨by rw [HV2.out]; rfl, HB4.out.alloc HB4.out.size _⟩
set_option maxRecDepth 100000 in
set_option maxHeartbeats 8000000 in
theorem holds_prop (ck ckey cpat : ByteArray) (cn : Int) (x : EvV) (user name : ByteArray) (mem lev : Int) (w : World) (hT : Tabs w) (hp : cpat.size ≤ 1000000000) (hn : name.size ≤ 1000000000) (hf : ∀ k, (fieldB x k).2.2.size ≤ 1000000000) (hk : x.keys.length ≤ 1000000000) (hx : x.Ok w) (c0 : ck.toList ≠ ([99, 111, 110, 116, 97, 105, 110, 115, 95, 100, 105, 115, 112, 108, 97, 121, 95, 110, 97, 109, 101] : List UInt8)) (c1 : ck.toList ≠ ([101, 118, 101, 110, 116, 95, 109, 97, 116, 99, 104] : List UInt8)) (c2 : ck.toList = ([101, 118, 101, 110, 116, 95, 112, 114, 111, 112, 101, 114, 116, 121, 95, 105, 115] : List UInt8)) :
    Calls Tryd.prog 7 #[.agg #[.string ck, .string ckey, .string cpat, .int .i64 cn], .agg #[.string x.room, .string x.type, .string x.sender, .bool x.isS, .string x.key, .int .i64 x.kind, .int .i64 x.n, .string x.text, .slice x.A8 x.keys.length x.c8, .slice x.A9 x.list.length x.c9, .slice x.A10 x.prev.length x.c10, .slice x.A11 x.auth.length x.c11, .int .i64 x.depth, .int .i64 x.ts, .string x.hash, .slice x.A15 x.sigs.length x.c15, .string user, .string name, .int .i64 mem, .int .i64 lev]] w fun e w' => e = .returned (.bool (holdsB ck ckey cpat cn x name mem lev)) ∧ Below w.heap.size w w' := by
  have hv := holdsB.eq_1 ck ckey cpat cn x name mem lev
  have HB := Lib.hid (((Below.refl w.heap.size w).alloc (Nat.le_refl _) (.cells #[.string ck, .string ckey, .string cpat, .int .i64 cn] 38)).alloc (by simp) (.cells #[.string x.room, .string x.type, .string x.sender, .bool x.isS, .string x.key, .int .i64 x.kind, .int .i64 x.n, .string x.text, .slice x.A8 x.keys.length x.c8, .slice x.A9 x.list.length x.c9, .slice x.A10 x.prev.length x.c10, .slice x.A11 x.auth.length x.c11, .int .i64 x.depth, .int .i64 x.ts, .string x.hash, .slice x.A15 x.sigs.length x.c15, .string user, .string name, .int .i64 mem, .int .i64 lev] 31))
  have HT := Lib.hid (fun W hb => hT.below (W := W) hb)
  have HF := Lib.hid (fun k W (hb : Below w.heap.size w W) => field_calls x k W hk (hx.below hb))
  have HFS := Lib.hid hf
  clear hT hk hx hf
  rw [if_neg c0, if_neg c1, if_pos c2] at hv
  have b0 : (ck.toList == ([99, 111, 110, 116, 97, 105, 110, 115, 95, 100, 105, 115, 112, 108, 97, 121, 95, 110, 97, 109, 101] : List UInt8)) = false := by rw [c2]; decide
  have b1 : (ck.toList == ([101, 118, 101, 110, 116, 95, 109, 97, 116, 99, 104] : List UInt8)) = false := by rw [c2]; decide
  have b2 : (ck.toList == ([101, 118, 101, 110, 116, 95, 112, 114, 111, 112, 101, 114, 116, 121, 95, 105, 115] : List UInt8)) = true := by rw [c2]; decide
  have b3 : (ck.toList == ([114, 111, 111, 109, 95, 109, 101, 109, 98, 101, 114, 95, 99, 111, 117, 110, 116] : List UInt8)) = false := by rw [c2]; decide
  have b4 : (ck.toList == ([115, 101, 110, 100, 101, 114, 95, 110, 111, 116, 105, 102, 105, 99, 97, 116, 105, 111, 110, 95, 112, 101, 114, 109, 105, 115, 115, 105, 111, 110] : List UInt8)) = false := by rw [c2]; decide
  clear c0 c1 c2
  have HF2 := Lib.hid (fun W hb => HF.out ckey W hb)
  have HKc := Lib.hid (blk_alloc (blk_new w (.cells #[.string ck, .string ckey, .string cpat, .int .i64 cn] 38)) (.cells #[.string x.room, .string x.type, .string x.sender, .bool x.isS, .string x.key, .int .i64 x.kind, .int .i64 x.n, .string x.text, .slice x.A8 x.keys.length x.c8, .slice x.A9 x.list.length x.c9, .slice x.A10 x.prev.length x.c10, .slice x.A11 x.auth.length x.c11, .int .i64 x.depth, .int .i64 x.ts, .string x.hash, .slice x.A15 x.sigs.length x.c15, .string user, .string name, .int .i64 mem, .int .i64 lev] 31))
  clear HF HFS HT
  generalize fieldB x ckey = v at *
  obtain ⟨v1, v2, v3⟩ := v
  simp only at hv HF2
  by_cases h3 : v1 = 3
  · subst h3
    by_cases q2 : v3.toList = cpat.toList
    · have e2 : (v3.toList == cpat.toList) = true := by simp [q2]
      have HV2 := Lib.hid (show holdsB ck ckey cpat cn x name mem lev = true by rw [hv]; simp [q2])
      clear hv q2
      as_aux_lemma =>
        go_enter Tryd.func7, Tryd.ntmps7
        go_wp2
        go_quiet (fail)
        go_wp2_with (go_at_call 12; refine (HF2.out _ (by first | exact pw_below_drewN HB.out _ | exact pw_below_drewN (pw_below_drewN HB.out _) _)).mono ?_; rintro e w4 ⟨A, a, c, B, b, d, rfl, hb4⟩; have HB4 := Lib.hid (below_step (by first | exact pw_below_drewN HB.out _ | exact pw_below_drewN (pw_below_drewN HB.out _) _) hb4); have cN : w4.cell? ⟨w.heap.size, 3, none⟩ = some (.int .i64 cn) := (blk_cell (blk_below (by first | exact blk_drewN HKc.out _ | exact blk_drewN (blk_drewN HKc.out _) _) hb4) 3).trans rfl; have hlt4 : w.heap.size < w4.heap.size := blk_lt (blk_below (by first | exact blk_drewN HKc.out _ | exact blk_drewN (blk_drewN HKc.out _) _) hb4); clear hb4)
        go_ret
        exact ⟨by rw [HV2.out]; rfl, HB4.out.alloc HB4.out.size _⟩
    · have e2 : (v3.toList == cpat.toList) = false := by simp [q2]
      have HV2 := Lib.hid (show holdsB ck ckey cpat cn x name mem lev = false by rw [hv]; simp [q2])
      clear hv q2
      as_aux_lemma =>
        go_enter Tryd.func7, Tryd.ntmps7
        go_wp2
        go_quiet (fail)
        go_wp2_with (go_at_call 12; refine (HF2.out _ (by first | exact pw_below_drewN HB.out _ | exact pw_below_drewN (pw_below_drewN HB.out _) _)).mono ?_; rintro e w4 ⟨A, a, c, B, b, d, rfl, hb4⟩; have HB4 := Lib.hid (below_step (by first | exact pw_below_drewN HB.out _ | exact pw_below_drewN (pw_below_drewN HB.out _) _) hb4); have cN : w4.cell? ⟨w.heap.size, 3, none⟩ = some (.int .i64 cn) := (blk_cell (blk_below (by first | exact blk_drewN HKc.out _ | exact blk_drewN (blk_drewN HKc.out _) _) hb4) 3).trans rfl; have hlt4 : w.heap.size < w4.heap.size := blk_lt (blk_below (by first | exact blk_drewN HKc.out _ | exact blk_drewN (blk_drewN HKc.out _) _) hb4); clear hb4)
        go_ret
        exact ⟨by rw [HV2.out]; rfl, HB4.out.alloc HB4.out.size _⟩
  have e3 : (v1 == 3) = false := by simp [h3]
  by_cases h2 : v1 = 2 ∨ v1 = 1
  · by_cases q5 : cpat.toList = []
    · have e5 : (cpat.toList == ([] : List UInt8)) = true := by simp [q5]
      have e5' : cpat.toList.isEmpty = true := by simp [q5]
      have HV2 := Lib.hid (show holdsB ck ckey cpat cn x name mem lev = (v2 == cn) by rw [hv, Bool.eq_iff_iff]; simp [q5, h3, h2])
      clear hv q5 h3
      rcases h2 with rfl | rfl
      · as_aux_lemma =>
          go_enter Tryd.func7, Tryd.ntmps7
          go_wp2
          go_quiet (fail)
          go_wp2_with (go_at_call 12; refine (HF2.out _ (by first | exact pw_below_drewN HB.out _ | exact pw_below_drewN (pw_below_drewN HB.out _) _)).mono ?_; rintro e w4 ⟨A, a, c, B, b, d, rfl, hb4⟩; have HB4 := Lib.hid (below_step (by first | exact pw_below_drewN HB.out _ | exact pw_below_drewN (pw_below_drewN HB.out _) _) hb4); have cN : w4.cell? ⟨w.heap.size, 3, none⟩ = some (.int .i64 cn) := (blk_cell (blk_below (by first | exact blk_drewN HKc.out _ | exact blk_drewN (blk_drewN HKc.out _) _) hb4) 3).trans rfl; have hlt4 : w.heap.size < w4.heap.size := blk_lt (blk_below (by first | exact blk_drewN HKc.out _ | exact blk_drewN (blk_drewN HKc.out _) _) hb4); clear hb4)
          go_ret
          exact ⟨by rw [HV2.out]; rfl, HB4.out.alloc HB4.out.size _⟩
      · as_aux_lemma =>
          go_enter Tryd.func7, Tryd.ntmps7
          go_wp2
          go_quiet (fail)
          go_wp2_with (go_at_call 12; refine (HF2.out _ (by first | exact pw_below_drewN HB.out _ | exact pw_below_drewN (pw_below_drewN HB.out _) _)).mono ?_; rintro e w4 ⟨A, a, c, B, b, d, rfl, hb4⟩; have HB4 := Lib.hid (below_step (by first | exact pw_below_drewN HB.out _ | exact pw_below_drewN (pw_below_drewN HB.out _) _) hb4); have cN : w4.cell? ⟨w.heap.size, 3, none⟩ = some (.int .i64 cn) := (blk_cell (blk_below (by first | exact blk_drewN HKc.out _ | exact blk_drewN (blk_drewN HKc.out _) _) hb4) 3).trans rfl; have hlt4 : w.heap.size < w4.heap.size := blk_lt (blk_below (by first | exact blk_drewN HKc.out _ | exact blk_drewN (blk_drewN HKc.out _) _) hb4); clear hb4)
          go_ret
          exact ⟨by rw [HV2.out]; rfl, HB4.out.alloc HB4.out.size _⟩
    · have e5 : (cpat.toList == ([] : List UInt8)) = false := by simp [q5]
      have e5' : cpat.toList.isEmpty = false := by simp [q5]
      have HV2 := Lib.hid (show holdsB ck ckey cpat cn x name mem lev = false by rw [hv]; simp [q5, h3])
      clear hv q5 h3
      rcases h2 with rfl | rfl
      · as_aux_lemma =>
          go_enter Tryd.func7, Tryd.ntmps7
          go_wp2
          go_quiet (fail)
          go_wp2_with (go_at_call 12; refine (HF2.out _ (by first | exact pw_below_drewN HB.out _ | exact pw_below_drewN (pw_below_drewN HB.out _) _)).mono ?_; rintro e w4 ⟨A, a, c, B, b, d, rfl, hb4⟩; have HB4 := Lib.hid (below_step (by first | exact pw_below_drewN HB.out _ | exact pw_below_drewN (pw_below_drewN HB.out _) _) hb4); have cN : w4.cell? ⟨w.heap.size, 3, none⟩ = some (.int .i64 cn) := (blk_cell (blk_below (by first | exact blk_drewN HKc.out _ | exact blk_drewN (blk_drewN HKc.out _) _) hb4) 3).trans rfl; have hlt4 : w.heap.size < w4.heap.size := blk_lt (blk_below (by first | exact blk_drewN HKc.out _ | exact blk_drewN (blk_drewN HKc.out _) _) hb4); clear hb4)
          go_ret
          exact ⟨by rw [HV2.out]; rfl, HB4.out.alloc HB4.out.size _⟩
      · as_aux_lemma =>
          go_enter Tryd.func7, Tryd.ntmps7
          go_wp2
          go_quiet (fail)
          go_wp2_with (go_at_call 12; refine (HF2.out _ (by first | exact pw_below_drewN HB.out _ | exact pw_below_drewN (pw_below_drewN HB.out _) _)).mono ?_; rintro e w4 ⟨A, a, c, B, b, d, rfl, hb4⟩; have HB4 := Lib.hid (below_step (by first | exact pw_below_drewN HB.out _ | exact pw_below_drewN (pw_below_drewN HB.out _) _) hb4); have cN : w4.cell? ⟨w.heap.size, 3, none⟩ = some (.int .i64 cn) := (blk_cell (blk_below (by first | exact blk_drewN HKc.out _ | exact blk_drewN (blk_drewN HKc.out _) _) hb4) 3).trans rfl; have hlt4 : w.heap.size < w4.heap.size := blk_lt (blk_below (by first | exact blk_drewN HKc.out _ | exact blk_drewN (blk_drewN HKc.out _) _) hb4); clear hb4)
          go_ret
          exact ⟨by rw [HV2.out]; rfl, HB4.out.alloc HB4.out.size _⟩
  have e2 : (v1 == 2) = false := by simp; exact fun h => h2 (.inl h)
  have e1 : (v1 == 1) = false := by simp; exact fun h => h2 (.inr h)
  have HV2 := Lib.hid (show holdsB ck ckey cpat cn x name mem lev = false by rw [hv]; simp [h3]; exact fun h => absurd h h2)
  clear hv h3 h2
  as_aux_lemma =>
    go_enter Tryd.func7, Tryd.ntmps7
    go_wp2
    go_quiet (fail)
    go_wp2_with (go_at_call 12; refine (HF2.out _ (by first | exact pw_below_drewN HB.out _ | exact pw_below_drewN (pw_below_drewN HB.out _) _)).mono ?_; rintro e w4 ⟨A, a, c, B, b, d, rfl, hb4⟩; have HB4 := Lib.hid (below_step (by first | exact pw_below_drewN HB.out _ | exact pw_below_drewN (pw_below_drewN HB.out _) _) hb4); have cN : w4.cell? ⟨w.heap.size, 3, none⟩ = some (.int .i64 cn) := (blk_cell (blk_below (by first | exact blk_drewN HKc.out _ | exact blk_drewN (blk_drewN HKc.out _) _) hb4) 3).trans rfl; have hlt4 : w.heap.size < w4.heap.size := blk_lt (blk_below (by first | exact blk_drewN HKc.out _ | exact blk_drewN (blk_drewN HKc.out _) _) hb4); clear hb4)
    go_ret
    exact ⟨by rw [HV2.out]; rfl, HB4.out.alloc HB4.out.size _⟩
set_option maxRecDepth 100000 in
set_option maxHeartbeats 8000000 in
theorem holds_mem (ck ckey cpat : ByteArray) (cn : Int) (x : EvV) (user name : ByteArray) (mem lev : Int) (w : World) (hT : Tabs w) (hp : cpat.size ≤ 1000000000) (hn : name.size ≤ 1000000000) (hf : ∀ k, (fieldB x k).2.2.size ≤ 1000000000) (hk : x.keys.length ≤ 1000000000) (hx : x.Ok w) (c0 : ck.toList ≠ ([99, 111, 110, 116, 97, 105, 110, 115, 95, 100, 105, 115, 112, 108, 97, 121, 95, 110, 97, 109, 101] : List UInt8)) (c1 : ck.toList ≠ ([101, 118, 101, 110, 116, 95, 109, 97, 116, 99, 104] : List UInt8)) (c2 : ck.toList ≠ ([101, 118, 101, 110, 116, 95, 112, 114, 111, 112, 101, 114, 116, 121, 95, 105, 115] : List UInt8)) (c3 : ck.toList = ([114, 111, 111, 109, 95, 109, 101, 109, 98, 101, 114, 95, 99, 111, 117, 110, 116] : List UInt8)) :
    Calls Tryd.prog 7 #[.agg #[.string ck, .string ckey, .string cpat, .int .i64 cn], .agg #[.string x.room, .string x.type, .string x.sender, .bool x.isS, .string x.key, .int .i64 x.kind, .int .i64 x.n, .string x.text, .slice x.A8 x.keys.length x.c8, .slice x.A9 x.list.length x.c9, .slice x.A10 x.prev.length x.c10, .slice x.A11 x.auth.length x.c11, .int .i64 x.depth, .int .i64 x.ts, .string x.hash, .slice x.A15 x.sigs.length x.c15, .string user, .string name, .int .i64 mem, .int .i64 lev]] w fun e w' => e = .returned (.bool (holdsB ck ckey cpat cn x name mem lev)) ∧ Below w.heap.size w w' := by
  have hv := holdsB.eq_1 ck ckey cpat cn x name mem lev
  have HB := Lib.hid (((Below.refl w.heap.size w).alloc (Nat.le_refl _) (.cells #[.string ck, .string ckey, .string cpat, .int .i64 cn] 38)).alloc (by simp) (.cells #[.string x.room, .string x.type, .string x.sender, .bool x.isS, .string x.key, .int .i64 x.kind, .int .i64 x.n, .string x.text, .slice x.A8 x.keys.length x.c8, .slice x.A9 x.list.length x.c9, .slice x.A10 x.prev.length x.c10, .slice x.A11 x.auth.length x.c11, .int .i64 x.depth, .int .i64 x.ts, .string x.hash, .slice x.A15 x.sigs.length x.c15, .string user, .string name, .int .i64 mem, .int .i64 lev] 31))
  have HT := Lib.hid (fun W hb => hT.below (W := W) hb)
  have HF := Lib.hid (fun k W (hb : Below w.heap.size w W) => field_calls x k W hk (hx.below hb))
  have HFS := Lib.hid hf
  clear hT hk hx hf
  rw [if_neg c0, if_neg c1, if_neg c2, if_pos c3] at hv
  have b0 : (ck.toList == ([99, 111, 110, 116, 97, 105, 110, 115, 95, 100, 105, 115, 112, 108, 97, 121, 95, 110, 97, 109, 101] : List UInt8)) = false := by rw [c3]; decide
  have b1 : (ck.toList == ([101, 118, 101, 110, 116, 95, 109, 97, 116, 99, 104] : List UInt8)) = false := by rw [c3]; decide
  have b2 : (ck.toList == ([101, 118, 101, 110, 116, 95, 112, 114, 111, 112, 101, 114, 116, 121, 95, 105, 115] : List UInt8)) = false := by rw [c3]; decide
  have b3 : (ck.toList == ([114, 111, 111, 109, 95, 109, 101, 109, 98, 101, 114, 95, 99, 111, 117, 110, 116] : List UInt8)) = true := by rw [c3]; decide
  have b4 : (ck.toList == ([115, 101, 110, 100, 101, 114, 95, 110, 111, 116, 105, 102, 105, 99, 97, 116, 105, 111, 110, 95, 112, 101, 114, 109, 105, 115, 115, 105, 111, 110] : List UInt8)) = false := by rw [c3]; decide
  clear c0 c1 c2 c3
  have HS := Lib.hid (fun W => stands_calls cpat mem hp W)
  have HV := Lib.hid hv
  clear hv HF HFS HT
  go_enter Tryd.func7, Tryd.ntmps7
  go_wp2
  go_quiet (fail)
  go_wp2_with (go_at_call 15; refine (HS.out _).mono ?_; rintro e w3 ⟨rfl, hb3⟩)
  go_ret
  exact ⟨by rw [HV.out]; rfl, by have h0 := pw_below_drewN HB.out nq; exact h0.trans (hb3.mono h0.size)⟩
set_option maxRecDepth 100000 in
set_option maxHeartbeats 8000000 in
theorem holds_allow (ck ckey cpat : ByteArray) (cn : Int) (x : EvV) (user name : ByteArray) (mem lev : Int) (w : World) (hT : Tabs w) (hp : cpat.size ≤ 1000000000) (hn : name.size ≤ 1000000000) (hf : ∀ k, (fieldB x k).2.2.size ≤ 1000000000) (hk : x.keys.length ≤ 1000000000) (hx : x.Ok w) (c0 : ck.toList ≠ ([99, 111, 110, 116, 97, 105, 110, 115, 95, 100, 105, 115, 112, 108, 97, 121, 95, 110, 97, 109, 101] : List UInt8)) (c1 : ck.toList ≠ ([101, 118, 101, 110, 116, 95, 109, 97, 116, 99, 104] : List UInt8)) (c2 : ck.toList ≠ ([101, 118, 101, 110, 116, 95, 112, 114, 111, 112, 101, 114, 116, 121, 95, 105, 115] : List UInt8)) (c3 : ck.toList ≠ ([114, 111, 111, 109, 95, 109, 101, 109, 98, 101, 114, 95, 99, 111, 117, 110, 116] : List UInt8)) (c4 : ck.toList = ([115, 101, 110, 100, 101, 114, 95, 110, 111, 116, 105, 102, 105, 99, 97, 116, 105, 111, 110, 95, 112, 101, 114, 109, 105, 115, 115, 105, 111, 110] : List UInt8)) :
    Calls Tryd.prog 7 #[.agg #[.string ck, .string ckey, .string cpat, .int .i64 cn], .agg #[.string x.room, .string x.type, .string x.sender, .bool x.isS, .string x.key, .int .i64 x.kind, .int .i64 x.n, .string x.text, .slice x.A8 x.keys.length x.c8, .slice x.A9 x.list.length x.c9, .slice x.A10 x.prev.length x.c10, .slice x.A11 x.auth.length x.c11, .int .i64 x.depth, .int .i64 x.ts, .string x.hash, .slice x.A15 x.sigs.length x.c15, .string user, .string name, .int .i64 mem, .int .i64 lev]] w fun e w' => e = .returned (.bool (holdsB ck ckey cpat cn x name mem lev)) ∧ Below w.heap.size w w' := by
  have hv := holdsB.eq_1 ck ckey cpat cn x name mem lev
  have HB := Lib.hid (((Below.refl w.heap.size w).alloc (Nat.le_refl _) (.cells #[.string ck, .string ckey, .string cpat, .int .i64 cn] 38)).alloc (by simp) (.cells #[.string x.room, .string x.type, .string x.sender, .bool x.isS, .string x.key, .int .i64 x.kind, .int .i64 x.n, .string x.text, .slice x.A8 x.keys.length x.c8, .slice x.A9 x.list.length x.c9, .slice x.A10 x.prev.length x.c10, .slice x.A11 x.auth.length x.c11, .int .i64 x.depth, .int .i64 x.ts, .string x.hash, .slice x.A15 x.sigs.length x.c15, .string user, .string name, .int .i64 mem, .int .i64 lev] 31))
  have HT := Lib.hid (fun W hb => hT.below (W := W) hb)
  have HF := Lib.hid (fun k W (hb : Below w.heap.size w W) => field_calls x k W hk (hx.below hb))
  have HFS := Lib.hid hf
  clear hT hk hx hf
  rw [if_neg c0, if_neg c1, if_neg c2, if_neg c3, if_pos c4] at hv
  have b0 : (ck.toList == ([99, 111, 110, 116, 97, 105, 110, 115, 95, 100, 105, 115, 112, 108, 97, 121, 95, 110, 97, 109, 101] : List UInt8)) = false := by rw [c4]; decide
  have b1 : (ck.toList == ([101, 118, 101, 110, 116, 95, 109, 97, 116, 99, 104] : List UInt8)) = false := by rw [c4]; decide
  have b2 : (ck.toList == ([101, 118, 101, 110, 116, 95, 112, 114, 111, 112, 101, 114, 116, 121, 95, 105, 115] : List UInt8)) = false := by rw [c4]; decide
  have b3 : (ck.toList == ([114, 111, 111, 109, 95, 109, 101, 109, 98, 101, 114, 95, 99, 111, 117, 110, 116] : List UInt8)) = false := by rw [c4]; decide
  have b4 : (ck.toList == ([115, 101, 110, 100, 101, 114, 95, 110, 111, 116, 105, 102, 105, 99, 97, 116, 105, 111, 110, 95, 112, 101, 114, 109, 105, 115, 115, 105, 111, 110] : List UInt8)) = true := by rw [c4]; decide
  clear c0 c1 c2 c3 c4
  have HV := Lib.hid hv
  clear hv HF HFS HT
  go_enter Tryd.func7, Tryd.ntmps7
  go_wp2
  go_quiet (fail)
  go_wp2
  go_ret
  exact ⟨by rw [HV.out]; rfl, pw_below_drewN HB.out _⟩
set_option maxRecDepth 100000 in
set_option maxHeartbeats 8000000 in
theorem holds_none (ck ckey cpat : ByteArray) (cn : Int) (x : EvV) (user name : ByteArray) (mem lev : Int) (w : World) (hT : Tabs w) (hp : cpat.size ≤ 1000000000) (hn : name.size ≤ 1000000000) (hf : ∀ k, (fieldB x k).2.2.size ≤ 1000000000) (hk : x.keys.length ≤ 1000000000) (hx : x.Ok w) (c0 : ck.toList ≠ ([99, 111, 110, 116, 97, 105, 110, 115, 95, 100, 105, 115, 112, 108, 97, 121, 95, 110, 97, 109, 101] : List UInt8)) (c1 : ck.toList ≠ ([101, 118, 101, 110, 116, 95, 109, 97, 116, 99, 104] : List UInt8)) (c2 : ck.toList ≠ ([101, 118, 101, 110, 116, 95, 112, 114, 111, 112, 101, 114, 116, 121, 95, 105, 115] : List UInt8)) (c3 : ck.toList ≠ ([114, 111, 111, 109, 95, 109, 101, 109, 98, 101, 114, 95, 99, 111, 117, 110, 116] : List UInt8)) (c4 : ck.toList ≠ ([115, 101, 110, 100, 101, 114, 95, 110, 111, 116, 105, 102, 105, 99, 97, 116, 105, 111, 110, 95, 112, 101, 114, 109, 105, 115, 115, 105, 111, 110] : List UInt8)) :
    Calls Tryd.prog 7 #[.agg #[.string ck, .string ckey, .string cpat, .int .i64 cn], .agg #[.string x.room, .string x.type, .string x.sender, .bool x.isS, .string x.key, .int .i64 x.kind, .int .i64 x.n, .string x.text, .slice x.A8 x.keys.length x.c8, .slice x.A9 x.list.length x.c9, .slice x.A10 x.prev.length x.c10, .slice x.A11 x.auth.length x.c11, .int .i64 x.depth, .int .i64 x.ts, .string x.hash, .slice x.A15 x.sigs.length x.c15, .string user, .string name, .int .i64 mem, .int .i64 lev]] w fun e w' => e = .returned (.bool (holdsB ck ckey cpat cn x name mem lev)) ∧ Below w.heap.size w w' := by
  have hv := holdsB.eq_1 ck ckey cpat cn x name mem lev
  have HB := Lib.hid (((Below.refl w.heap.size w).alloc (Nat.le_refl _) (.cells #[.string ck, .string ckey, .string cpat, .int .i64 cn] 38)).alloc (by simp) (.cells #[.string x.room, .string x.type, .string x.sender, .bool x.isS, .string x.key, .int .i64 x.kind, .int .i64 x.n, .string x.text, .slice x.A8 x.keys.length x.c8, .slice x.A9 x.list.length x.c9, .slice x.A10 x.prev.length x.c10, .slice x.A11 x.auth.length x.c11, .int .i64 x.depth, .int .i64 x.ts, .string x.hash, .slice x.A15 x.sigs.length x.c15, .string user, .string name, .int .i64 mem, .int .i64 lev] 31))
  have HT := Lib.hid (fun W hb => hT.below (W := W) hb)
  have HF := Lib.hid (fun k W (hb : Below w.heap.size w W) => field_calls x k W hk (hx.below hb))
  have HFS := Lib.hid hf
  clear hT hk hx hf
  rw [if_neg c0, if_neg c1, if_neg c2, if_neg c3, if_neg c4] at hv
  have b0 : (ck.toList == ([99, 111, 110, 116, 97, 105, 110, 115, 95, 100, 105, 115, 112, 108, 97, 121, 95, 110, 97, 109, 101] : List UInt8)) = false := by simpa using c0
  have b1 : (ck.toList == ([101, 118, 101, 110, 116, 95, 109, 97, 116, 99, 104] : List UInt8)) = false := by simpa using c1
  have b2 : (ck.toList == ([101, 118, 101, 110, 116, 95, 112, 114, 111, 112, 101, 114, 116, 121, 95, 105, 115] : List UInt8)) = false := by simpa using c2
  have b3 : (ck.toList == ([114, 111, 111, 109, 95, 109, 101, 109, 98, 101, 114, 95, 99, 111, 117, 110, 116] : List UInt8)) = false := by simpa using c3
  have b4 : (ck.toList == ([115, 101, 110, 100, 101, 114, 95, 110, 111, 116, 105, 102, 105, 99, 97, 116, 105, 111, 110, 95, 112, 101, 114, 109, 105, 115, 115, 105, 111, 110] : List UInt8)) = false := by simpa using c4
  have HV := Lib.hid hv
  clear hv HF HFS HT c0 c1 c2 c3 c4
  go_enter Tryd.func7, Tryd.ntmps7
  go_wp2
  go_quiet (fail)
  go_wp2
  go_ret
  exact ⟨by rw [HV.out]; rfl, pw_below_drewN HB.out _⟩
set_option maxRecDepth 100000 in
set_option maxHeartbeats 8000000 in
theorem holds_calls (ck ckey cpat : ByteArray) (cn : Int) (x : EvV) (user name : ByteArray) (mem lev : Int) (w : World) (hT : Tabs w) (hp : cpat.size ≤ 1000000000) (hn : name.size ≤ 1000000000) (hf : ∀ k, (fieldB x k).2.2.size ≤ 1000000000) (hk : x.keys.length ≤ 1000000000) (hx : x.Ok w) :
    Calls Tryd.prog 7 #[.agg #[.string ck, .string ckey, .string cpat, .int .i64 cn], .agg #[.string x.room, .string x.type, .string x.sender, .bool x.isS, .string x.key, .int .i64 x.kind, .int .i64 x.n, .string x.text, .slice x.A8 x.keys.length x.c8, .slice x.A9 x.list.length x.c9, .slice x.A10 x.prev.length x.c10, .slice x.A11 x.auth.length x.c11, .int .i64 x.depth, .int .i64 x.ts, .string x.hash, .slice x.A15 x.sigs.length x.c15, .string user, .string name, .int .i64 mem, .int .i64 lev]] w fun e w' => e = .returned (.bool (holdsB ck ckey cpat cn x name mem lev)) ∧ Below w.heap.size w w' := by
  by_cases c0 : ck.toList = ([99, 111, 110, 116, 97, 105, 110, 115, 95, 100, 105, 115, 112, 108, 97, 121, 95, 110, 97, 109, 101] : List UInt8)
  · exact holds_named ck ckey cpat cn x user name mem lev w hT hp hn hf hk hx c0
  by_cases c1 : ck.toList = ([101, 118, 101, 110, 116, 95, 109, 97, 116, 99, 104] : List UInt8)
  · exact holds_match ck ckey cpat cn x user name mem lev w hT hp hn hf hk hx c0 c1
  by_cases c2 : ck.toList = ([101, 118, 101, 110, 116, 95, 112, 114, 111, 112, 101, 114, 116, 121, 95, 105, 115] : List UInt8)
  · exact holds_prop ck ckey cpat cn x user name mem lev w hT hp hn hf hk hx c0 c1 c2
  by_cases c3 : ck.toList = ([114, 111, 111, 109, 95, 109, 101, 109, 98, 101, 114, 95, 99, 111, 117, 110, 116] : List UInt8)
  · exact holds_mem ck ckey cpat cn x user name mem lev w hT hp hn hf hk hx c0 c1 c2 c3
  by_cases c4 : ck.toList = ([115, 101, 110, 100, 101, 114, 95, 110, 111, 116, 105, 102, 105, 99, 97, 116, 105, 111, 110, 95, 112, 101, 114, 109, 105, 115, 115, 105, 111, 110] : List UInt8)
  · exact holds_allow ck ckey cpat cn x user name mem lev w hT hp hn hf hk hx c0 c1 c2 c3 c4
  exact holds_none ck ckey cpat cn x user name mem lev w hT hp hn hf hk hx c0 c1 c2 c3 c4
end Go.Proofs.YtodhmbnfliajiaaDoor.Q
