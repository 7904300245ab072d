/- HandGlob: a text of this claim's proof, as printed or written, without what the claim does not use. -/
import Derived.WalkKit
import Derived.WalkSpells
import Derived.WalkSmall
import Derived.Deep.LoopGhost
import Derived.Lib.OthersKept
import Derived.Lib.Hide
import Derived.Lib.RuneCountTail
import Derived.BigQuiet
import Derived.Deep.QuietTactic
import Derived.Test.YtodhmbnfliajiaaDoorShelf
import Derived.Test.YtodhmbnfliajiaaDoorJ5
import Derived.Test.YtodhmbnfliajiaaDoorHandGlobA
import Derived.Test.YtodhmbnfliajiaaDoorQx0
import Derived.Test.YtodhmbnfliajiaaDoorQx3
namespace Go.Proofs.YtodhmbnfliajiaaDoor.Q
open Go.RowKit Go.Shelf Go.Proofs.YtodhmbnfliajiaaDoorW.PrintWords Go.Proofs.YtodhmbnfliajiaaDoorW.PrintLast
def glob_Fold.f (k : Nat) (a0 a1 : ByteArray) : Option Bool := if 1000000000000 < a0.size then none else if 1000000000000 < a1.size then none else glob_match.f k ((gletters a0).map glow) ((gletters a1).map glow)
set_option maxRecDepth 100000 in
set_option maxHeartbeats 4000000 in
theorem glob_Fold.calls (k : Nat) (a0 : ByteArray) (a1 : ByteArray) (r : Bool) (w : World) (hT : Tabs w) (h : glob_Fold.f k a0 a1 = some r) :
    Calls Tryd.prog 14 #[.string a0, .string a1] w fun e w' => e = .returned (.bool r) ∧ Below w.heap.size w w' := by
  unfold glob_Fold.f at h
  by_cases h0 : 1000000000000 < a0.size
  · rw [if_pos h0] at h; cases h
  by_cases h1 : 1000000000000 < a1.size
  · rw [if_neg h0, if_pos h1] at h; cases h
  rw [if_neg h0, if_neg h1] at h
  have H := Lib.hid h; clear h
  go_enter Tryd.func14, Tryd.ntmps14
  go_wp2_with fail
  refine (letters_any a0 (by omega) w hT).mono ?_
  rintro e w1 ⟨v0, rfl, ho1, hb1⟩
  go_wp2_with fail
  refine (low_any w.heap.size v0 (gletters a0) (by have := gletters_len a0; omega) (glets_i32 a0 _ _) w1 hb1.size ho1).mono ?_
  rintro e w2 ⟨rfl, ho2, hb2⟩
  have hb02 := hb1.trans hb2
  go_wp2_with fail
  refine (letters_any a1 (by omega) w2 (hT.below hb02)).mono ?_
  rintro e w3 ⟨v1, rfl, ho3, hb3⟩
  go_wp2_with fail
  refine (low_any w2.heap.size v1 (gletters a1) (by have := gletters_len a1; omega) (glets_i32 a1 _ _) w3 hb3.size ho3).mono ?_
  rintro e w4 ⟨rfl, ho4, hb4⟩
  have hb24 := hb3.trans hb4
  have ho5 := pw_own_below ho2 hb24
  obtain ⟨A0, c0, hv0, hc0, hC0⟩ := gl_reads (l := (gletters a0).map glow) (by simpa using ho5)
  obtain ⟨A1, c1, hv1, hc1, hC1⟩ := gl_reads (l := (gletters a1).map glow) (by simpa using ho4)
  rw [hv0, hv1]
  have hM := glob_match.calls k A0 c0 _ A1 c1 _ r w4 hC0 hc0 hC1 hc1 H.out
  simp only [List.length_map] at hM
  have HM := Lib.hid hM
  clear hM hC0 hC1 ho1 ho2 ho3 ho4 ho5 hv0 hv1
  go_wp2_with fail
  refine (HM.out).mono ?_
  rintro e w5 ⟨rfl, hb5⟩
  go_wp2
  go_ret
  exact ⟨rfl, (hb02.trans (hb24.mono hb02.size)).trans (hb5.mono (Nat.le_trans hb02.size hb24.size))⟩
end Go.Proofs.YtodhmbnfliajiaaDoor.Q
