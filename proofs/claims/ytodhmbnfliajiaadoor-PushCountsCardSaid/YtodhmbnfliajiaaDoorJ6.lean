/- Merged out of: PureFold, ShelfX. -/
import Derived.Test.YtodhmbnfliajiaaDoorPureGlob
import Derived.Test.YtodhmbnfliajiaaDoorHandGlob
import Derived.Test.YtodhmbnfliajiaaDoorQx0
import Derived.Shelf.SlSortCmp.Insertion
import Derived.Shelf.SlicesQ.IndexFunc
import Derived.Ground.SlsfProg
import Derived.Ground.SlgfProg
import Derived.Test.YtodhmbnfliajiaaDoorProg
/- PureFold: a text of this claim's proof, as printed or written, without what the claim does not use. -/
namespace Go.Proofs.YtodhmbnfliajiaaDoor.Q
open Go.RowKit Go.Proofs.YtodhmbnfliajiaaDoorW.PrintWords
theorem decode_ascii (s : ByteArray) (i : Nat) (h : (s.get! i).toNat < 128) : Utf8.decode s i = ((s.get! i).toNat, 1) := by
  rw [Go.Lib.decode_at]; unfold Go.Lib.decodeN; rw [if_pos h]
def foldB (p s : ByteArray) : Bool := gM ((gletters p).map glow) ((gletters s).map glow)
theorem glob_Fold_f (p s : ByteArray) (hp : p.size ≤ 1000000000) (hs : s.size ≤ 1000000000) : ∃ K, glob_Fold.f K p s = some (foldB p s) := by
  have lp := gletters_len p
  have ls := gletters_len s
  obtain ⟨K, h⟩ := glob_match_f ((gletters p).map glow) ((gletters s).map glow) (by rw [List.length_map]; omega) (by rw [List.length_map]; omega)
  refine ⟨K, ?_⟩
  unfold glob_Fold.f
  rw [if_neg (by omega), if_neg (by omega)]
  exact h
end Go.Proofs.YtodhmbnfliajiaaDoor.Q

/- ShelfX: a text of this claim's proof, as printed or written, without what the claim does not use. -/
namespace Go.Proofs
open Go.Shelf
def Tryd.insL_ren : Go.Shelf.Ren := ⟨fun | 20 => 72 | n => n, fun | 24 => 3 | 22 => 80 | 3 => 3 | 25 => 82 | 4 => 4 | 0 => 0 | n => n, fun | n => n⟩
theorem Tryd.insL : Go.Proofs.SlLaysF.n20 Tryd.prog Tryd.insL_ren := {
  mixed := by kernel_rfl
  f20 := ⟨Tryd.f72.name, by decide, Tryd.func72.trans (congrArg some (by kernel_rfl))⟩
  t0 := Tryd.underlying0
  a0 := Tryd.isAgg0
  z0 := Tryd.sizeOf0
  v0 := Tryd.zeroValue0
  t3 := Tryd.underlying3
  a3 := Tryd.isAgg3
  z3 := Tryd.sizeOf3
  v3 := Tryd.zeroValue3
  t4 := Tryd.underlying4
  a4 := Tryd.isAgg4
  z4 := Tryd.sizeOf4
  v4 := Tryd.zeroValue4
  t22 := Tryd.underlying80
  a22 := Tryd.isAgg80
  z22 := Tryd.sizeOf80
  v22 := Tryd.zeroValue80
  a24 := Tryd.isAgg3
  z24 := Tryd.sizeOf3
  t25 := Tryd.underlying82
  a25 := Tryd.isAgg82
  z25 := Tryd.sizeOf82
  v25 := Tryd.zeroValue82 }
end Go.Proofs

